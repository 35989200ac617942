/- Part 1: framework, functions, plain laws. -/
import Derived.CallsIn
import Derived.Laws.AppendOwn
import Derived.Laws.Rows
import Derived.Laws.Cells
import Derived.Below
import Derived.DefersIn
import Derived.Laws.World
import Derived.Laws.StructEq
import Derived.MapKept
import Derived.Laws.AppendOwnNone
set_option linter.all false
noncomputable section
namespace Go.Pm
def bG:=@Option.some.injEq
def dG:=@List.mem_append
def dK:=@decide_eq_true
def dV:=@decide_eq_false
def fQ:=@Int.toNat_natCast
def fH:=@Bool.and_eq_true
def jB:=@List.mem_cons_of_mem
def kY:=@Nat.eq_of_beq_eq_true
def fJ:=@Prod.mk.injEq
def jM:=@List.mem_cons_self
def dQ:=@cond_false
def kK:=@List.mem_singleton
def jJ:=@List.mem_flatMap
def lX:=@List.flatMap_cons
def dU:=@cond_true
def yP:=@Array.getD_eq_getD_getElem?
def jW:=@List.mem_cons
def oO:=@decide_eq_true_eq
def jy:=@Nat.le_refl
def Ai:=@List.getElem?_eq_getElem
def ER:=@List.getElem?_eq_some_iff
def nU:=@List.map_cons
def dH:=@if_pos
def xm:=@List.length_cons
def dM:=@if_neg
def Uc:=@Int.mul_le_mul_of_nonneg_right
def BG:=@List.length_append
def Aj:=@List.all_eq_true
def rY:=@List.mem_map
def Jy:=@List.mem_of_getElem?
def jF:=@congrArg
def X5:=@Array.getElem?_eq_some_iff
def IV:=@List.getElem?_take
def Ak:=@List.mem_range
def ES:=@List.cons.injEq
def Qs:=@Nat.mul_le_mul_right
def NQ:=@Bool.not_eq_true'
def xn:=@Nat.zero_le
def Yg:=@List.getElem?_cons_succ
def Yh:=@Option.map_eq_some_iff
def BH:=@Nat.le_trans
def NW:=@List.nil_append
def Yi:=@List.getElem?_of_mem
def OL:=@Option.map_some
def Qu:=@List.mem_filter
def Il:=@Int.le_of_lt
def dqU:=@List.map_congr_left
def dqV:=@List.range_eq_range'
def TR:=@List.map_append
def dqX:=@List.getElem?_drop
def NR:=@Nat.zero_add
def dqZ:=@Array.getElem?_append_left
def dq0:=@List.getElem?_map
def Yj:=@List.range'_succ
def X6:=@List.length_nil
def dq3:=@List.mem_or_eq_of_mem_set
def dq4:=@Nat.ne_of_beq_eq_false
def dq5:=@List.ext_getElem?
def Qv:=@Nat.succ_mul
def dq7:=@List.getElem?_eq_none
def dq8:=@Nat.not_lt_zero
def dq9:=@Option.some.inj
def qda:=@List.length_map
def qdb:=@List.getElem_mem
def qdc:=@List.nodup_cons
def qdd:=@Int.mul_le_mul_of_nonneg_left
def qde:=@of_decide_eq_true
def qdf:=@Nat.succ_le_of_lt
def qdg:=@List.pairwise_iff_getElem
def qdh:=@Array.toArray_toList
def qdi:=@Nat.lt_of_lt_of_le
def qdj:=@Bool.or_eq_true
def qdk:=@decide_eq_false_iff_not
def qdl:=@Int.le_of_mul_le_mul_right
def qdm:=@Bool.false_eq_true
def qdn:=@List.eq_nil_of_length_eq_zero
def qdo:=@List.filter_cons
def qdp:=@List.getElem?_cons_zero
def qdq:=@Bool.true_and
def qdr:=@List.pairwise_cons
def qds:=@Bool.not_true
def qdt:=@List.drop_eq_nil_of_le
def Ud:=@Nat.ble_eq
def qdv:=@Array.getElem?_setIfInBounds_ne
def qdw:=@Nat.lt_trichotomy
def qdx:=@Classical.byContradiction
def qdy:=@List.foldl_cons
def qdz:=@Nat.mul_comm
def qdA:=@Bool.eq_iff_iff
def qdB:=@List.cons_append
def qdC:=@List.length_take
def qdD:=@List.length_drop
def qdE:=@List.pairwise_append
def qdF:=@List.length_eq_zero_iff
def qdG:=@Nat.or_lt_two_pow
def qdH:=@List.flatMap_append
def qdI:=@Option.getD_some
def qdJ:=@Nat.le_of_ble_eq_true
def qdK:=@decide_false
def qdL:=@List.length_filter_le
def qdM:=@Array.getElem?_eq_getElem
def qdN:=@List.mem_append_left
def qdO:=@Nat.pow_le_pow_right
def qdP:=@List.any_eq_false
def qdQ:=@Nat.add_zero
def qdR:=@List.map_nil
def qdS:=@List.map_map
def qdT:=@Int.lt_irrefl
def qdU:=@List.flatMap_map
def qdV:=@List.countP_cons
def qdW:=@Bool.and_false
def qdX:=@Int.mul_nonneg
def OM:=@if_true
def qdZ:=@Array.getElem?_setIfInBounds
def qd0:=@Int.tdiv_eq_ediv_of_nonneg
def qd1:=@Bool.false_and
def qd2:=@if_false
def qd3:=@Array.length_toList
def Ue:=@Iff.rfl
def qd5:=@List.getElem_of_mem
def qd6:=@Nat.blt_eq
def qd7:=@Nat.lt_or_ge
def qd8:=@beq_iff_eq
def qd9:=@List.headD_cons
def qja:=@Nat.add_sub_cancel
def qjb:=@List.take_of_length_le
def qjc:=@Array.getElem?_eq_none
def qjd:=@List.append_assoc
def qje:=@List.length_range
def qjf:=@List.pairwise_map
def qjg:=@List.mem_append_right
def qjh:=@Array.toList_map
def qji:=@beq_self_eq_true
def qjj:=@List.any_eq_true
def qjk:=@List.not_mem_nil
def qjl:=@Bool.not_eq_true
def qjm:=@List.getElem?_set_ne
def qjn:=@Nat.add_assoc
def qjo:=@List.all_cons
def qjp:=@Bool.and_true
def qjq:=@List.append_nil
def qjr:=@List.getElem?_range
def qjs:=@List.map_id
def qjt:=@beq_eq_false_iff_ne
def qju:=@Int.le_refl
def qjv:=@Int.mul_lt_mul_of_pos_right
def qjw:=@List.range_succ
def qjx:=@List.mem_map_of_mem
def qjy:=@Nat.eq_zero_or_pos
def qjz:=@Int.le_total
def qjA:=@List.countP_append
def qjB:=@getElem!_pos
def qjC:=@List.nodup_nil
def qjD:=@List.mapM_cons
def qjE:=@Array.mapM_eq_mapM_toList
def qjF:=@Nat.mul_le_mul
def qjG:=@Bool.not_false
def qjH:=@Decidable.byContradiction
def qjI:=@List.getElem?_set
def qjJ:=@List.nodup_append
def qjK:=@Nat.lt_of_succ_le
def qjL:=@Ne.symm
def qjM:=@Int.mul_one
def qjN:=@Int.add_mul
def qjO:=@List.getElem?_set_self
def qjP:=@Array.getElem?_modify
def qjQ:=@Nat.ble_eq_true_of_le
def qjR:=@Nat.add_comm
def qjS:=@List.countP_le_length
def qjT:=@or_congr
def qjU:=@List.mem_of_mem_take
def qjV:=@Nat.div_lt_of_lt_mul
def qjW:=@Nat.mul_one
def qjX:=@List.filter_eq_self
def qjY:=@List.length_pos_iff
def qjZ:=@List.countP_eq_zero
def qj0:=@congrFun
def qj1:=@and_true
def qj2:=@List.range'_concat
def qj3:=@Bool.and_self
def qj4:=@List.any_cons
def qj5:=@Array.all_eq_true_iff_forall_mem
def qj6:=@Array.toList_push
def qj7:=@Int.lt_trichotomy
def qj8:=@List.map_set
def qj9:=@Int.lt_or_le
def jqa:=@Nat.gcd_comm
def jqb:=@Int.le_trans
def jqc:=@Option.bind_some
def jqd:=@Nat.mod_eq_of_lt
def jqe:=@Nat.zero_testBit
def jqf:=@Nat.div_add_mod
def jqg:=@Nat.mul_add_mod
def jqh:=@Int.neg_mul
def jqi:=@Int.mul_pos
def jqj:=@Int.sub_mul
def jqk:=@Int.mul_sub
def jql:=@Int.ediv_mul_le
def jqm:=@Int.mul_ne_zero
def jqn:=@Array.getElem?_eq_none_iff
def jqo:=@Int.eq_of_mul_eq_mul_right
def jqp:=@Int.lt_of_mul_lt_mul_right
def jqq:=@List.getD_eq_getElem?_getD
def jqr:=@List.getElem?_zip_eq_some
def jqs:=@List.extract_eq_take_drop
def jqt:=@List.drop_eq_getElem_cons
def jqu:=@List.drop_zero
def jqv:=@Nat.testBit_or
def jqw:=@List.getElem?_append_left
def jqx:=@Int.natAbs_mul
def jqy:=@Option.isSome_iff_exists
def jqz:=@Int.not_lt
def jqA:=@Int.mul_tdiv_cancel_left
def jqB:=@List.map_drop
def jqC:=@or_false
def jqD:=@Bool.and_comm
def jqE:=@Int.eq_ofNat_of_zero_le
def jqF:=@List.pairwise_singleton
def jqG:=@List.pairwise_lt_range
def jqH:=@List.length_pos_of_mem
def jqI:=@List.filter_eq_nil_iff
def jqJ:=@Bool.and_eq_false_iff
def jqK:=@List.set_getElem_self
def jqL:=@List.getElem?_toArray
def jqM:=@Nat.zero_mul
def jqN:=@Nat.sub_zero
def jqO:=@List.singleton_append
def jqP:=@Array.getElem?_toList
def jqQ:=@Int.natAbs_dvd_natAbs
def jqR:=@Bool.not_not
def jqS:=@List.contains_iff_mem
def jqT:=@Nat.lt_trans
def jqU:=@List.mem_of_mem_drop
def jqV:=@List.extract_toArray
def jqW:=@Bool.or_eq_false_iff
def jqX:=@List.Pairwise.filter
def jqY:=@Nat.pow_lt_pow_right
def jqZ:=@Nat.eq_of_testBit_eq
theorem omY{p:Prop}(h:p:=by omega):p:=h
inductive KF where
  | one
  | ints
instance KF.dec:DecidableEq KF:=λa b=>match a,b with|.one,.one=>isTrue rfl|.ints,.ints=>isTrue rfl|.one,.ints=>isFalse (λh=>by cases h)|.ints,.one=>isFalse (λh=>by cases h)
abbrev MQ:=KF×Nat×Bool×List (Option IntKind)
inductive PV where
  | bool (b:Bool)
  | int (k:IntKind) (n:Int)
  | nilp
  | nilf
  | nilm
  | nils
  | fp (cells:List PV) (off:Nat)
  | sl (len size:Nat) (get:Nat->List PV)
  | fn (f:FuncId) (first caps:List PV)
  | fna (f:FuncId) (cells:List PV)
def smB:Nat→PV→PV→Bool
  | 0,_,_=>false
  | d+1,x,y=>match x,y with|.int k _,.int k' _=>decide (k=k')|.bool _,.bool _=>true|.sl _ s g,.sl _ s' g'=>Nat.beq s s'&&(Nat.beq (g 0).length (g' 0).length&&((g 0).zip (g' 0)).all λz=>smB d z.1 z.2)|.fp l o,.fp l' o'=>Nat.beq o o'&&(Nat.beq l.length l'.length&&(l.zip l').all λz=>smB d z.1 z.2)|.nils,.nils=>true|.nilp,.nilp=>true|.nilf,.nilf=>true|.nilm,.nilm=>true|_,_=>false
def smL(l m:List PV):Bool:=Nat.beq l.length m.length&&(l.zip m).all λz=>smB 8 z.1 z.2
inductive rZ where
  | v (v:PV)
  | b (L:Nat)
inductive Cl where
  | p (v:PV)
  | ptr (L off:Nat)
  | vptr (L size i k:Nat)
  | vec (L:Nat)
  | mo (L:Nat)
  | clo (f:FuncId) (caps:List rZ)
  | undef
  | junk
  | dead (L:Nat)
inductive D1 where
  | c (x:Cl)
  | agg (cs:List Cl)
inductive DV where
  | one (d:D1)
  | tup (ds:List D1)
inductive AO where
  | box (ty:Nat) (cells:List Cl)
  | fbox (cells:List PV)
  | vec (ety size bytes len:Nat) (get:Nat->List PV)
  | fvec (size len:Nat) (get:Nat->List PV)
  | vv (te bb ety size bytes len:Nat) (ln:Nat->Nat) (get:Nat->Nat->List PV)
  | vt (te bb ety size bytes len:Nat) (ln:Nat->Nat) (get:Nat->Nat->List PV) (hole:Nat)
  | mo (kt vt:Nat) (q:MQ) (n:Nat) (F:List Int->Option (List Int))
  | gone
inductive PA where
  | one (v:PV)
  | agg (cs:List PV)
structure ae (ρ : Type) where
  T:{A:Type}->(ρ->Option A)->Option A
  nat:∀{A:Type}(k:ρ->Option A),T k=(T some).bind k
abbrev ae.o{ρ:Type}(c:ae ρ):Option ρ:=c.T some
def ae.no{ρ:Type}:ae ρ:=⟨λ_=>none,λ_=>rfl⟩
def ae.ok{ρ:Type}(r:ρ):ae ρ:=⟨λk=>k r,λ_=>rfl⟩
inductive ET where
  | none
  | clone (ety size bytes:Nat)
  | sort (ety size bytes:Nat)
  | mkv (e s b:Nat) (F:List PA->ae (Nat×(Nat->List PV)×List PV))
  | grow (e s b:Nat) (F:List PA->Nat->(Nat->List PV)->ae (Nat×(Nat->List PV)))
inductive XC where
  | p (v:PV)
  | vec (e s b n:Nat) (get:Nat->List PV)
  | mo (kt vt:Nat) (q:MQ) (n:Nat) (F:List Int->Option (List Int))
  | slf (f:FuncId) (np n:Nat)
inductive XA where
  | d (a:PA)
  | box (ty:Nat) (cells:List XC)
abbrev MK:=List XA->ae (List PA×List XA)
structure bM where
  fn:FuncId->List PA->ae (List PA)
  own:FuncId->ET
  it:FuncId->List PA->ae (List (List PA))
  vv:Nat->Bool
  mt:FuncId->Option MK
  cfn:FuncId->List PA->ae (List PA)
def lk{α:Type}:List (Nat×α)→Nat→Option α
  | [],_=>none
  | (k,a)::r,n=>match Nat.beq k n with|true=>some a|false=>lk r n
structure St where
  env:List (Nat×DV)
  ay:List (Nat×AO)
  log:List (Nat×Nat×Nat)
abbrev DV.p(v:PV):DV:=.one (.c (.p v))
abbrev DV.int(n:Int):DV:=.one (.c (.p (.int .i64 n)))
abbrev DV.bool(b:Bool):DV:=.one (.c (.p (.bool b)))
abbrev DV.cl(x:Cl):DV:=.one (.c x)
abbrev DV.junk:DV:=.one (.c .junk)
def vG:Value→Option PV|.bool b=>some (.bool b)|.int k n=>some (.int k n)|.pointer none=>some .nilp|.slice none 0 0=>some .nils|.nilFunc=>some .nilf|.map none=>some .nilm|_=>none
def jf:List Value→Option (List Cl)
  | []=>some []
  | v::r=>match vG v,jf r with|some x,some l=>some (.p x::l)|_,_=>none
def OO(v:Value):DV :=
 match v with
 | .agg cs=>match jf cs.toList with|some l=>.one (.agg l)|none=>.junk
 | v=>match vG v with|some x=>.p x|none=>.junk
def dW(env:List (Nat×DV)):Operand→DV
  | .tmp t=>match lk env t with|some d=>d|none=>.junk
  | .const v=>OO v
  | .func f=>.p (.fn f [] [])
  | .global _=>.junk
section
variable(P:Program)
def oP(t:TypeId):Option Nat:=(P.info? t).map (·.size)
def jb(t:TypeId):Option Bool:=(P.underlying t).map fun
  | .struct _=>true
  | .array _ _=>true
  | _=>false
def gu(t:TypeId):Option (List Cl) :=
 match P.info? t with
 | some i=>match i.zero with
  | some z=>match jf z.cells.toList with
   | some l=>if l.length=i.size then some l else none
   | none=>none
  | none=>none
 | none=>none
end
def D1.cells:D1→List Cl|.c x=>[x]|.agg cs=>cs
def spl{α:Type}:List α→Nat→List α→List α|l,_,[]=>l|l,off,x::r=>spl (l.set off x) (off+1) r
def jO:List Cl→Option (List PV)
  | []=>some []
  | .p v::r=>match jO r with|some l=>some (v::l)|none=>none
  | _=>none
def zx(ob:Nat→Option AO):Cl→Option (PV×List (Nat×AO))
  | .p v=>some (v,[])
  | .vec L=>match ob L with|some (.vec _ size _ len get)=>some (.sl len size get,[(L,.fvec size len get)])|some (.fvec size len get)=>some (.sl len size get,[])|some (.vv _ _ _ size _ n ln get)=>some (.sl n 1 (λi=>[.sl (ln i) size (get i)]),[(L,.fvec 1 n (λi=>[.sl (ln i) size (get i)]))])|_=>none
  | _=>none
def jg(ob:Nat→Option AO):List Cl→Option (List PV×List (Nat×AO))
  | []=>some ([],[])
  | x::r=>match zx ob x,jg ob r with|some (v,u),some (l,us)=>some (v::l,u++us)|_,_=>none
def NY(ob:Nat→Option AO):Cl→Option (PV×List (Nat×AO))
  | .ptr L off=>match ob L with
    | some (.box _ cells)=>match jg ob cells with|some (l,us)=>some (.fp l off,us++[(L,.fbox l)])|none=>none
    | some (.fbox l)=>some (.fp l off,[])
    | _=>none
  | x=>zx ob x
def nz(ob:Nat→Option AO):List Cl→Option (List PV×List (Nat×AO))
  | []=>some ([],[])
  | x::r=>match NY ob x,nz ob r with|some (v,u),some (l,us)=>some (v::l,u++us)|_,_=>none
def Jz(ob:Nat→Option AO):Cl→Option (PV×List (Nat×AO))
  | .ptr L off=>match ob L with
    | some (.box _ cells)=>match nz ob cells with|some (l,us)=>some (.fp l off,us++[(L,.fbox l)])|none=>none
    | some (.fbox l)=>some (.fp l off,[])
    | _=>none
  | x=>zx ob x
def rD(ob:Nat→Option AO):List Cl→Option (List PV×List (Nat×AO))
  | []=>some ([],[])
  | x::r=>match Jz ob x,rD ob r with|some (v,u),some (l,us)=>some (v::l,u++us)|_,_=>none
def zcS:rZ→Cl|.v v=>.p v|.b L=>.ptr L 0
def frz(ob:Nat→Option AO):Cl→Option (PV×List (Nat×AO))
  | .clo f caps=>match rD ob (caps.map zcS)with|some (l,us)=>some (.fn f [] l,us)|none=>none
  | x=>Jz ob x
def su(ob:Nat→Option AO):List Cl→Option (List PV×List (Nat×AO))
  | []=>some ([],[])
  | x::r=>match frz ob x,su ob r with|some (v,u),some (l,us)=>some (v::l,u++us)|_,_=>none
def zy(ob:Nat→Option AO):DV→Option (PA×List (Nat×AO))
  | .one (.c x)=>match frz ob x with|some (v,u)=>some (.one v,u)|none=>none
  | .one (.agg cs)=>match su ob cs with|some (l,u)=>some (.agg l,u)|none=>none
  | _=>none
def gQ(ob:Nat→Option AO):List DV→Option (List PA×List (Nat×AO))
  | []=>some ([],[])
  | x::r=>match zy ob x,gQ ob r with|some (v,u),some (l,us)=>some (v::l,u++us)|_,_=>none
def lq:List rZ→List Nat|[]=>[]|.v _::r=>lq r|.b L::r=>L::lq r
def aY:Cl→List Nat|.ptr L _=>[L]|.vptr L _ _ _=>[L]|.vec L=>[L]|.mo L=>[L]|.clo _ caps=>lq caps|.dead L=>[L]|_=>[]
def dw:D1→List Nat|.c x=>aY x|.agg cs=>cs.flatMap aY
def bQ:DV→List Nat|.one d=>dw d|.tup ds=>ds.flatMap dw
def dJ:AO→List Nat|.box _ cs=>cs.flatMap aY|_=>[]
def bi(ob:Nat->Option AO)(d:DV):List Nat :=
 (bQ d).flatMap λL=>L::match ob L with
  | some o=>(dJ o).flatMap λM=>M::match ob M with|some o'=>dJ o'|none=>[]
  | none=>[]
def NZ:PA→D1|.one v=>.c (.p v)|.agg cs=>.agg (cs.map .p)
def resD:List PA→DV|[x]=>.one (NZ x)|l=>.tup (l.map NZ)
structure CP where
  p:Prop
  b:Bool
  h:b=true->p
instance cpOf(p:Prop)[Decidable p]:CoeDep Prop p CP:=⟨⟨p,decide p,of_decide_eq_true⟩⟩
inductive aA : Type 1 where
  | no
  | val (fp:List (Nat×Bool)) (d:DV) (u:List (Nat×AO)) (kill:List Nat)
  | chk (fp:List (Nat×Bool)) (safe:CP) (d:DV) (u:List (Nat×AO)) (kill:List Nat)
def jC:PV→Bool|.bool _=>true|.int _ _=>true|_=>false
def zfT:PA→Bool|.one v=>jC v|.agg cs=>cs.all jC
def Uf(l:List PA):Bool:=l.all zfT
def rd(l:List Nat):List (Nat×Bool):=l.map λL=>(L,false)
def wr(l:List Nat):List (Nat×Bool):=l.map λL=>(L,true)
def sc2(l:List PV):Bool:=l.all jC&&Nat.ble 2 l.length
def zfU:List PV→Bool|a::b::r=>!(jC a&&jC b)&&zfU (b::r)|_=>true
def zsd:Nat×AO→Bool|(_,.fbox l)=>zfU l|(_,.gone)=>true|_=>false
def zau:List (Nat×AO)→Bool|[(_,.fbox l),(_,.fbox [.fp _ _])]=>l.all λv=>!jC v|_=>false
inductive Anch:PV→Prop
  | scal (v:PV) (h:jC v=true):Anch v
  | nils:Anch .nils
  | sl (n s:Nat) (get:Nat->List PV) (h:∀i:Nat,∃(j:Nat)(x:PV),(get i)[j]? = some x/\jC x=true) (h2:∀(i:Nat)(x:PV),x∈get i->Anch x):Anch (.sl n s get)
def zO:Nat→PV→Bool
  | 0,_=>false
  | d+1,v=>match v with|.nils=>true|.sl _ _ g=>(g 0).any jC&&(g 0).all (zO d)|v=>jC v
def Ug(u:List (Nat×AO))(r:List PA):Bool:=match r,u with
 | [.one (.sl n s get)],_::_=>match sc2 (get 0)with|true=>u.all zsd|false=>zau u&&zO 8 (.sl n s get)
 | _,_=>false
def kZ(iW:List Nat)(u:List (Nat×AO))(r:List PA):aA :=
 match Uf r||Ug u r with|true=>.val (rd iW) (resD r) [] []|false=>.val (wr iW) (resD r) u []
def kL(isAgg:Bool)(n:Nat)(cells:List Cl)(off:Nat):Option D1 :=
  match isAgg with
  | true => let l := (cells.drop off).take n
    match Nat.beq l.length n with|true=>some (.agg l)|false=>none
  | false=>match cells[off]? with|some x=>some (.c x)|none=>none
def D1.isAgg:D1→Bool|.c _=>false|.agg _=>true
def BI:Cl→Bool|.junk=>false|.undef=>false|.dead _=>false|_=>true
def lH:Cl→List Nat|.vptr L _ _ _=>[L]|.vec L=>[L]|.dead L=>[L]|.mo L=>[L]|_=>[]
def rE:D1→List Nat|.c x=>lH x|.agg cs=>cs.flatMap lH
def kR:DV→List Nat|.one d=>rE d|.tup ds=>ds.flatMap rE
def oh:AO→List Nat|.box _ cs=>cs.flatMap lH|_=>[]
def appG(n:Nat)(get new:Nat->List PV):Nat->List PV :=
 λj=>match Nat.ble n j with|true=>new (j-n)|false=>get j
def zA(i k:Nat)(get:Nat->List PV)(new:List PV):Nat->List PV :=
 λj=>match Nat.beq j i with|true=>spl (get j) k new|false=>get j
def Io(f:PV→PV→PV):List PV→List PV→List PV|[],_=>[]|x::r,l=>f x (l.headD .nilp)::Io f r l.tail
def shp:Nat→PV→PV→PV
  | 0,_,b=>b
  | d+1,a,b=>match a with
    | .int k _=>.int k (match b with | .int _ n=>n|_=>0)
    | .bool _=>.bool (match b with | .bool x=>x|_=>false)
    | .sl _ s g=>.sl (match b with | .sl n _ _=>n|_=>0) s (λi=>Io (shp d) (g 0) (match b with | .sl _ _ g'=>g' i|_=>[]))
    | .fp l o=>.fp (Io (shp d) l (match b with | .fp l' _=>l'|_=>[])) o
    | a=>a
def nzG(row:List PV)(g:Nat->List PV):Nat->List PV:=λi=>Io (shp 8) row (g i)
def zfV(row:List PV)(g:Nat->Nat->List PV):Nat->Nat->List PV:=λi j=>Io (shp 8) row (g i j)
def zQ(b:Bool)(x y:DV):DV :=
 match x,y with
 | .one (.c (.p (.bool a))),.one (.c (.p (.bool c)))=>.bool (match b with|true=>a|false=>c)
 | x,y=>match b with|true=>x|false=>y
def Qw(k:IntKind)(a b:Int):Int:=k.wrap (a*2^(min b.toNat k.bits))
def Ip(k:IntKind)(a b:Int):Int:=a.fdiv (2^(min b.toNat k.bits))
def N7(k:IntKind)(a b:Int):Int:=k.wrap (BitVec.ofInt k.bits a &&& BitVec.ofInt k.bits b).toNat
def orW(k:IntKind)(a b:Int):Int:=k.wrap (BitVec.ofInt k.bits a ||| BitVec.ofInt k.bits b).toNat
def zCh(k:IntKind)(a b:Int):Int:=k.wrap (BitVec.ofInt k.bits a ^^^ BitVec.ofInt k.bits b).toNat
def pR(k:IntKind)(a b:Int):Int:=k.wrap (BitVec.ofInt k.bits a &&& ~~~ BitVec.ofInt k.bits b).toNat
def zfX(op:BinOp)(k:IntKind)(a b:Int):aA :=
 match op with|.shl=>.chk [] (0<=b) (.p (.int k (Qw k a b))) [] []|.shr=>.chk [] (0<=b) (.p (.int k (Ip k a b))) [] []|_=>.no
def Uh(op:BinOp)(k:IntKind)(a b:Int):aA :=
 match op with|.shl=>.chk [] (0<=b) (.p (.int k (Qw k a b))) [] []|.shr=>.chk [] (0<=b) (.p (.int k (Ip k a b))) [] []|.and=>.val [] (.p (.int k (N7 k a b))) [] []|.or=>.val [] (.p (.int k (orW k a b))) [] []|.xor=>.val [] (.p (.int k (zCh k a b))) [] []|.andNot=>.val [] (.p (.int k (pR k a b))) [] []|.add=>.val [] (.p (.int k (k.wrap (a+b)))) [] []|.sub=>.val [] (.p (.int k (k.wrap (a-b)))) [] []|.mul=>.val [] (.p (.int k (k.wrap (a*b)))) [] []|.quo=>.chk [] (b≠0) (.p (.int k (k.wrap (a.tdiv b)))) [] []|.rem=>.chk [] (b≠0) (.p (.int k (a.tmod b))) [] []|.eql=>.val [] (.bool (a==b)) [] []|.neq=>.val [] (.bool (a != b)) [] []|.lss=>.val [] (.bool (decide (a<b))) [] []|.leq=>.val [] (.bool (decide (a<=b))) [] []|.gtr=>.val [] (.bool (decide (a>b))) [] []|.geq=>.val [] (.bool (decide (a>=b))) [] []
def JA:List Cl→Option (List Int)
  | []=>some []
  | .p (.int .i64 a)::r=>match JA r with|some l=>some (a::l)|none=>none
  | _=>none
def zuL(Γ:bM):Option Nat→Bool|some t=>Γ.vv t|none=>false
def ET.on:ET→Bool|.none=>false|_=>true
variable(P:Program)(Γ:bM)
def eqT:Nat→TypeId→D1→D1→Option Bool
  | 0,_,_,_=>none
  | d+1,t,x,y =>
    match P.underlying t with
    | some .bool=>match x,y with|.c (.p (.bool a)),.c (.p (.bool b))=>some (a==b)|_,_=>none
    | some (.int _)=>match x,y with
      | .c (.p (.int k a)),.c (.p (.int k' b))=>if k=k' then some (a==b)else none
      | _,_=>none
    | some (.struct fs)=>match x,y,P.stoodInHeld t with
      | .agg xs,.agg ys,false=>fs.toList.foldr (λf acc =>
          match acc, f.name != "_", jb P f.type, oP P f.type with
          | some r,true,some ag,some n=>match kL ag n xs f.offset,kL ag n ys f.offset with
            | some a,some b=>match eqT d f.type a b with
              | some e=>some (match e with|true=>r|false=>false)
              | none=>none
            | _,_=>none
          | _,_,_,_=>none) (some true)
      | _,_,_=>none
    | _=>none
def zav(op:BinOp)(t:TypeId)(cs ds:List Cl):aA :=
 match P.eqGuardType P.depth t,eqT P 8 t (.agg cs) (.agg ds)with
 | false,some r=>match op with|.eql=>.val [] (.bool r) [] []|.neq=>.val [] (.bool (!r)) [] []|_=>.no
 | _,_=>.no
def kH:Nat→TypeId→Option Nat
  | 0,_=>none
  | d+1,t =>
    match P.underlying t with
    | some (.int .i64)=>match oP P t with
      | some n=>match Nat.beq n 1 with|true=>some 1|false=>none
      | none=>none
    | some (.struct fs)=>match P.stoodInHeld t with
      | true=>none
      | false => fs.toList.foldl (fun acc f => match acc, f.name != "_", kH d f.type, oP P f.type with
        | some m,true,some n,some n'=>match Nat.beq f.offset m&&Nat.beq n n' with|true=>some (m+n)|false=>none
        | _,_,_,_=>none) (some 0)
    | some (.array n e)=>match kH d e,oP P e with
      | some m,some m'=>match Nat.beq m m' with|true=>some (n*m)|false=>none
      | _,_=>none
    | _=>none
def JB(t:TypeId)(x i:DV):aA :=
 match P.underlying t with
 | some (.array n e)=>match oP P e,jb P e,x,i with
  | some m,some ag,.one (.agg cs),.one (.c (.p (.int _ (.ofNat j))))=>match Nat.blt j n,kL ag m cs (j*m)with|true,some d=>.val [] (.one d) [] []|_,_=>.no
  | _,_,_,_=>.no
 | _=>.no
def JC(t:TypeId)(x:DV)(f:Nat):aA :=
 match P.underlying t with
 | some (.struct fs)=>match fs[f]? with
  | some fd=>match oP P fd.type,jb P fd.type,x with
   | some m,some ag,.one (.agg cs)=>match kL ag m cs fd.offset with|some d=>.val [] (.one d) [] []|none=>.no
   | _,_,_=>.no
  | none=>.no
 | _=>.no
def BJ(n:Nat)(e:TypeId)(x i:DV):aA :=
 match oP P e,i with
 | some m,.one (.c (.p (.int _ (.ofNat j))))=>match Nat.blt j n with
  | true=>match x with|.one (.c (.ptr L off))=>.val [] (.cl (.ptr L (off+j*m))) [] []|.one (.c (.p (.fp c off)))=>.val [] (.p (.fp c (off+j*m))) [] []|_=>.no
  | false=>.no
 | _,_=>.no
def zfY(t:TypeId):Option (List (Option IntKind)) :=
 match gu P t with
 | some z=>z.foldr (λc acc=>match c,acc with|.p (.int k (.ofNat 0)),some l=>some (some k::l)|.p (.bool false),some l=>some (none::l)|_,_=>none) (some [])
 | none=>none
def lZ(k:TypeId):Option (KF×Nat) :=
 match kH P 8 k,jb P k with
 | some n,some true=>some (.ints,n)
 | some n,some false=>match Nat.beq n 1 with|true=>some (.one,n)|false=>none
 | _,_=>none
def JD(k e:TypeId):Option MQ :=
 match lZ P k,zfY P e,jb P e with
 | some (kf,n),some ks,some xC=>match(xC||Nat.beq ks.length 1),(P.info? e).bind (·.zero),xC with|true,some (.agg _),true=>some (kf,n,xC,ks)|true,some (.agg _),false=>none|true,some _,false=>some (kf,n,xC,ks)|_,_,_=>none
 | _,_,_=>none
def zmg(kf:KF)(n:Nat)(d:DV):Option (List Int) :=
 match kf,d with
 | .ints,.one (.agg cs)=>match JA cs with
  | some l=>match Nat.beq l.length n with|true=>some l|false=>none
  | none=>none
 | .one,.one (.c (.p (.int .i64 a)))=>some [a]
 | _,_=>none
def zfZ:Option IntKind→Int→PV|some k,x=>.int k x|none,x=>.bool (x != 0)
def sD(o:Option (List Int))(i:Nat):Int:=match o with|some l=>l.getD i 0|none=>0
def zuM(o:Option (List Int)):Nat→List (Option IntKind)→List PV|_,[]=>[]|i,k::ks=>zfZ k (sD o i)::zuM o (i+1) ks
def zf0(xC:Bool)(ks:List (Option IntKind))(o:Option (List Int)):Option D1 :=
 match xC,zuM o 0 ks with|true,l=>some (.agg (l.map .p))|false,[v]=>some (.c (.p v))|_,_=>none
def tV:List (Option IntKind)→List Cl→Option (List Int)
  | [],[]=>some []
  | some k::ks,.p (.int k' a)::r=>if k=k' then match tV ks r with|some l=>some (a::l)|none=>none else none
  | none::ks,.p (.bool b)::r=>match tV ks r with|some l=>some ((match b with|true=>1|false=>0)::l)|none=>none
  | _,_=>none
def lT(c v:List Int)(F:List Int->Option (List Int)):List Int->Option (List Int) :=
 λx=>match decide (x=c)with|true=>some v|false=>F x
def addN(o:Option (List Int))(n:Nat):Nat:=match o with|some _=>n|none=>n+1
def found(q:MQ)(k:DV)(ok:Bool)(F:List Int->Option (List Int))(fin:DV->aA):aA :=
 match zmg q.1 q.2.1 k with
 | some c=>match zf0 q.2.2.1 q.2.2.2 (F c)with
  | some d=>match ok with|true=>fin (.tup [d,.c (.p (.bool (F c).isSome))])|false=>fin (.one d)
  | none=>.no
 | none=>.no
def l7{α:Type}(i:Nat)(x:α)(f:Nat->α):Nat->α:=λj=>match Nat.beq j i with|true=>x|false=>f j
def JE(t:TypeId)(m k:DV)(ok:Bool)(ob:Nat->Option AO):aA :=
 match P.underlying t,m with
 | some (.map kt vt),.one (.c (.mo L))=>match JD P kt vt,ob L with
  | some q,some (.mo kt' vt' q' _ F)=>if kt'=kt/\vt'=vt/\q'=q then found q k ok F λd=>.val [(L,false)] d [] []else .no
  | _,_=>.no
 | _,_=>.no
def Ui(t:TypeId)(m k v:DV)(ob:Nat->Option AO):aA :=
 match P.underlying t,m with
 | some (.map kt vt),.one (.c (.mo L))=>match JD P kt vt,ob L with
  | some q,some (.mo kt' vt' q' m' F)=>match zmg q.1 q.2.1 k,v with
   | some c,.one dv=>match tV q.2.2.2 dv.cells with
    | some l=>if kt'=kt/\vt'=vt/\q'=q/\dv.isAgg=q.2.2.1 then .val [(L,true)] .junk [(L,.mo kt vt q (addN (F c) m') (lT c l F))] []else .no
    | none=>.no
   | _,_=>.no
  | _,_=>.no
 | _,_=>.no
def zaw(t k:Nat)(l:List PV):List PV :=
 match P.underlying t,l[k]? with
 | some (.slice e2),some .nils=>match oP P e2,gu P e2 with
  | some s,some z=>match jO z with|some z=>l.set k (.sl 0 s (λ_=>z))|none=>l
  | _,_=>l
 | _,_=>l
def zf1:List Field→List PV→List PV|[],l=>l|f::r,l=>zf1 r (zaw P f.type f.offset l)
def zB(e:TypeId)(l:List PV):List PV :=
 match P.underlying e with|some (.struct fs)=>zf1 P fs.toList l|_=>zaw P e 0 l
def BK(e:TypeId):List PV:=match gu P e with
 | some z=>match jO z with|some l=>zB P e l|none=>[]
 | none=>[]
def rF(t:TypeId)(x y:DV)(dst:Option Nat)(ob:Nat->Option AO):aA :=
 match P.underlying t,x,y,dst with
 | some (.slice e),.one (.c (.p (.int _ n))),.one (.c (.p (.int _ m))),some dst=>match P.info? e,gu P e,ob dst with
  | some ie,some z,none=>match zuL Γ (some dst)with
   | true=>match z,P.underlying e with
    | [.p .nils],some (.slice e2)=>match P.info? e2,gu P e2,Nat.beq ie.size 1&&Nat.ble ie.bytes 1000000 with
     | some i2,some z2,true=>match jO z2,Nat.ble 1 i2.size with|some l2,true=>.chk [(dst,true)] (0<=n/\n=m/\n<=1000000) (.cl (.vec dst)) [(dst,.vv e ie.bytes e2 i2.size i2.bytes n.toNat (λ_=>0) (λ_ _=>l2))] []|_,_=>.no
     | _,_,_=>.no
    | _,_=>.no
   | false=>match jO z with
    | some l=>match Nat.ble 1 ie.size&&Nat.ble ie.bytes 1000000 with|true=>.chk [(dst,true)] (0<=n/\n=m/\n<=1000000) (.cl (.vec dst)) [(dst,.vec e ie.size ie.bytes n.toNat (λ_=>zB P e l))] []|false=>.no
    | none=>.no
  | _,_,_=>.no
 | _,_,_,_=>.no
def EU(ev:Operand→DV):Option Operand→Option (Option Int)
  | none=>some none
  | some x=>match ev x with|.one (.c (.p (.int _ j)))=>some (some j)|_=>none
def slG(get:Nat->List PV)(l:Nat):Nat->List PV:=λi=>get (i+l)
def BL(t:TypeId)(x:DV)(lo hi:Option (Option Int)):aA :=
 match P.underlying t,x,lo,hi with
 | some (.slice e),.one (.c (.p (.sl n s get))),some lo,some hi=>match oP P e with
  | some m=>match Nat.beq s m with|true=>.chk [] (0<=lo.getD 0/\lo.getD 0<=hi.getD (n:Int)/\hi.getD (n:Int)<=(n:Int)) (.p (.sl (hi.getD (n:Int)-lo.getD 0).toNat s (slG get (lo.getD 0).toNat))) [] []|false=>.no
  | none=>.no
 | _,_,_,_=>.no
def JF(t:TypeId)(f:Nat):Option Nat :=
 match P.underlying t with
 | some (.struct fs)=>match fs[f]? with
  | some fd=>match oP P fd.type with|some (_+1)=>some fd.offset|_=>none
  | none=>none
 | _=>none
def xI(t:TypeId):Bool :=
 match P.underlying t with|some (.struct fs)=>fs.toList.all λf=>(oP P f.type).isSome|some (.array _ e)=>(oP P e).isSome|_=>false
def gY(t:TypeId)(ev:Operand→DV):List Cl→List (Nat×Operand)→Option (List Cl)
  | z,[]=>some z
  | z,(i,o)::r =>
    match ev o with
    | .one d =>
      match P.underlying t with
      | some (.struct fs)=>match fs[i]? with
        | some fd=>match oP P fd.type with
          | some n=>match Nat.beq n d.cells.length&&Nat.ble (fd.offset+n) z.length&&d.cells.all BI with|true=>gY t ev (spl z fd.offset d.cells) r|false=>none
          | none=>none
        | none=>none
      | some (.array _ e)=>match oP P e with
        | some n=>match Nat.beq n d.cells.length&&Nat.ble (i*n+n) z.length&&d.cells.all BI with|true=>gY t ev (spl z (i*n) d.cells) r|false=>none
        | none=>none
      | _=>none
    | _=>none
def jd(ob:Nat→Option AO)(ev:Operand→DV)(size:Nat):Nat→List (Nat×Operand)→Option (List (List PV)×List (Nat×AO)×List Nat)
  | _,[]=>some ([],[],[])
  | i,(j,o)::r =>
    match Nat.beq i j with
    | true=>match ev o with
      | .one d=>match jg ob d.cells,jd ob ev size (i+1) r with
        | some (l,u),some (ls,us,iW)=>match Nat.beq l.length size with|true=>some (l::ls,u++us,dw d++iW)|false=>none
        | _,_=>none
      | _=>none
    | false=>none
def smA:List (List PV)→Bool|[]=>true|c::r=>smL c c&&r.all (smL c)
def Am(l:List (List PV)):Nat->List PV :=
 match l with
 | []=>λ_=>[]
 | [c]=>λ_=>c
 | c::r=>λi=>match(c::r)[i]? with|some x=>x|none=>c
def EW(ob:Nat->Option AO)(dst:Option Nat)(o:AO)(d:Nat->DV):aA :=
 match dst with
 | some t=>match ob t with|none=>.val [(t,true)] (d t) [(t,o)] []|some _=>.no
 | none=>.no
def elP(ag:Bool)(l:List PV):PA :=
 match ag,l with|true,l=>.agg l|false,[v]=>.one v|_,_=>.agg []
def JG(C:List PA->ae (List PA))(caps:List PV)(ag:Bool)(get:Nat->List PV)(i j:Nat):Option Int :=
 (C (elP ag (get i)::elP ag (get j)::caps.map .one)).T λr=>match r with|[.one (.int .i64 c)]=>some c|_=>none
def nH(C:List PA->ae (List PA))(caps:List PV)(ag:Bool)(get:Nat->List PV)(i j:Nat):Int:=(JG C caps ag get i j).getD 0
def STO(n:Nat)(c:Nat->Nat->Int):Prop :=
 (∀i,i<n->0<=c i i)/\(∀i j,i<n->j<n->i≠j->(c i j<0/\0<=c j i)\/(c j i<0/\0<=c i j)) /\
 ∀i j k,i<n->j<n->k<n->c i j<0->c j k<0->c i k<0
def zf2(n:Nat)(p:Nat->Nat->Bool)(c:Nat->Nat->Int):Bool :=
  (List.range n).all fun i => decide (0 ≤ c i i) && (List.range n).all fun j => p i j && (Nat.beq i j || (decide (c i j < 0) && decide (0 ≤ c j i)) || (decide (c j i < 0) && decide (0 ≤ c i j))) &&
    (List.range n).all λk=>!(decide (c i j<0)&&decide (c j k<0))||decide (c i k<0)
def zuN(n:Nat)(p:Nat->Nat->Bool)(c:Nat->Nat->Int):Prop:=n<=4611686018427387/\(∀i j,i<n->j<n->p i j=true)/\STO n c
def zuO(n:Nat)(p:Nat->Nat->Bool)(c:Nat->Nat->Int):CP:=⟨zuN n p c,Nat.ble n 4611686018427387&&zf2 n p c,λh=>by
 rw[fH,Ud]at h;obtain⟨h0,h⟩:=h;simp only[zf2,Aj,Ak,fH,qdj,oO,NQ,jqJ,qdk]at h;refine⟨h0,λi j hi hj=>((h i hi).2 j hj).1.1,λi hi=>(h i hi).1,λi j hi hj iK=>?_,λi j k hi hj hk h1 h2=>?_⟩;rcases((h i hi).2 j hj).1.2 with(h1|h1)|h1
 exact absurd (kY h1) iK;exact .inl h1;exact .inr h1;rcases((h i hi).2 j hj).2 k hk with(h3|h3)|h3
 exact absurd h1 h3;exact absurd h2 h3;exact h3⟩
def Qx(c:Nat→Nat→Int)(x:Nat):List Nat→List Nat
  | []=>[x]
  | y::r=>match decide (c x y<0)with|true=>x::y::r|false=>y::Qx c x r
def xJ(n:Nat)(c:Nat->Nat->Int):List Nat:=(List.range n).foldr (Qx c) []
def JH{α:Type}(n:Nat)(c:Nat->Nat->Int)(get:Nat->α):Nat->α:=λi=>get ((xJ n c).getD i ((xJ n c).getD 0 0))
def zf3(get:Nat→List PV):List (Nat×AO)→Bool
  | []=>true
  | u=>match zau u with|true=>(get 0).all (zO 8)|false=>(get 0).all jC
def zuP(e:TypeId):List DV→Option (Nat×Nat×(Nat→List PV))
  | [.one (.c (.p (.sl n s get)))]=>some (n,s,get)
  | [.one (.c (.p .nils))]=>match gu P e with
    | some z=>match jO z with|some l=>some (0,l.length,λ_=>l)|none=>none
    | none=>none
  | _=>none
def JI{α:Type}:List α→Option (List α×α)
  | []=>none
  | d::r=>match JI r with|some (l,x)=>some (d::l,x)|none=>some ([],d)
def jY(o:Oper)(k:ET)(args:List DV)(ob:Nat->Option AO):aA :=
  match k with
  | .none=>.no
  | .sort e s b=>match args with
    | [.one (.c (.vec L)),.one (.c (.p (.fn h [] caps)))]=>match ob L,jb P e with
      | some (.vec e' s' b' n get),some ag=>if e'=e/\s'=s/\b'=b then
          .chk [(L,true)] (zuO n (λi j=>(JG (Γ.cfn h) caps ag get i j).isSome) (nH (Γ.cfn h) caps ag get)) (.tup []) [(L,.vec e s b n (JH n (nH (Γ.cfn h) caps ag get) get))] []
        else .no
      | _,_=>.no
    | _=>.no
  | .clone e s b=>match zuP P e args,o.dst with
    | some (n,s',get),some dst=>match ob dst,P.info? e,gu P e with
      | none,some ie,some _=>if s'=s/\ie.size=s/\ie.bytes=b/\0<s then
          .chk [(dst,true)] (n*b<=140737488355328/\n<=9223372036854775807) (.cl (.vec dst)) [(dst,.vec e s b n get)] []
        else .no
      | _,_,_=>.no
    | _,_=>.no
  | .mkv e s b F=>match gQ ob args,o.dst with
    | some (az,u),some dst=>match(F az).o,ob dst,P.info? e,gu P e with
      | some (n,get,rs),none,some ie,some _=>if ie.size=s/\ie.bytes=b/\0<s/\zf3 get u=true/\rs.all jC=true then
          .val ((dst,true)::rd (args.flatMap (bi ob)))
            (match rs with|[]=>.cl (.vec dst)|_=>.tup (.c (.vec dst)::rs.map λv=>.c (.p v))) [(dst,.vec e s b n get)] []
        else .no
      | _,_,_,_=>.no
    | _,_=>.no
  | .grow e s b F=>match JI args with
    | some (ds,.one (.c (.vec L)))=>match gQ ob ds,ob L with
      | some (az,[]),some (.vec e' s' b' n get)=>match(F az n get).o with
        | some (m,get')=>if e'=e/\s'=s/\b'=b then
            .val ((L,true)::rd (ds.flatMap (bi ob))) (.cl (.vec L)) [(L,.vec e s b m get')] [L]
          else .no
        | none=>.no
      | _,_=>.no
    | some (ds,.one (.c (.p .nils)))=>match gQ ob ds,o.dst with
      | some (az,[]),some dst=>match ob dst,P.info? e,gu P e with
        | none,some ie,some z=>match jO z with
          | some l=>match(F az 0 λ_=>l).o with
            | some (m,get')=>if ie.size=s/\ie.bytes=b/\0<s then
                .val ((dst,true)::rd (ds.flatMap (bi ob))) (.cl (.vec dst)) [(dst,.vec e s b m get')] []
              else .no
            | none=>.no
          | none=>.no
        | _,_,_=>.no
      | _,_=>.no
    | _=>.no
def zCj:DV→Option rZ|.one (.c (.p v))=>some (.v v)|.one (.c (.ptr L 0))=>some (.b L)|_=>none
def BN(ev:Operand→DV):List Operand→Option (List rZ)
  | []=>some []
  | x::r=>match zCj (ev x),BN ev r with|some c,some l=>some (c::l)|_,_=>none
def capD:rZ→DV|.v v=>.p v|.b L=>.cl (.ptr L 0)
abbrev kS:=Option (FuncId×Nat×List Nat)
def JJ:List rZ→List Nat→Bool|[],[]=>true|.b L::r,M::s=>Nat.beq L M&&JJ r s|_,_=>false
def Uj:List rZ→Option (List Nat)
  | []=>some []
  | .b L::r=>match Uj r with|some l=>some (L::l)|none=>none
  | _=>none
def zcT(f:FuncId)(np:Nat)(caps:List rZ):kS:=match Uj caps with|some l=>some (f,np,l)|none=>none
def zuQ(sf:kS)(f:FuncId)(caps:List rZ):Option XC:=match sf with
 | some (f',np,ls)=>match Nat.beq f f'&&JJ caps ls with|true=>some (.slf f' np ls.length)|false=>none
 | none=>none
def iF(sf:kS)(ob:Nat→Option AO):List Cl→Option (List XC×List Nat)
  | []=>some ([],[])
  | c::r=>match iF sf ob r with
    | some (l,ms)=>match c with
      | .p v=>some (.p v::l,ms)
      | .vec M=>match ob M with|some (.vec e s b n get)=>some (.vec e s b n get::l,M::ms)|_=>none
      | .mo M=>match ob M with|some (.mo kt vt q n F)=>some (.mo kt vt q n F::l,M::ms)|_=>none
      | .clo f caps=>match zuQ sf f caps with|some x=>some (x::l,ms)|none=>none
      | _=>none
    | none=>none
def ry(ob:Nat->Option AO)(d:DV):Option (XA×List Nat×List Nat) :=
 match zy ob d with|some (x,[])=>some (.d x,[],[])|_=>none
def zC(sf:kS)(ob:Nat->Option AO)(d:DV):Option (XA×List Nat×List Nat) :=
 match d with
 | .one (.c (.ptr L 0))=>match ob L with
  | some (.box ty cells)=>match iF sf ob cells with|some (cs,ms)=>some (.box ty cs,L::ms,ms)|none=>none
  | _=>ry ob d
 | _=>ry ob d
def jP(sf:kS)(ob:Nat→Option AO):List DV→Option (List XA×List Nat×List Nat)
  | []=>some ([],[],[])
  | d::r=>match zC sf ob d,jP sf ob r with|some (x,bl,ms),some (xs,bls,mss)=>some (x::xs,bl++bls,ms++mss)|_,_=>none
def gG:List Cl→List XC→Option (List Cl×List (Nat×AO))
  | [],[]=>some ([],[])
  | .p _::cs,.p v::ys=>match gG cs ys with|some (l,u)=>some (.p v::l,u)|none=>none
  | .vec M::cs,.vec e s b n get::ys=>match gG cs ys with|some (l,u)=>some (.vec M::l,(M,.vec e s b n get)::u)|none=>none
  | .mo M::cs,.mo kt vt q n F::ys=>match gG cs ys with|some (l,u)=>some (.mo M::l,(M,.mo kt vt q n F)::u)|none=>none
  | .clo f caps::cs,.slf _ _ _::ys=>match gG cs ys with|some (l,u)=>some (.clo f caps::l,u)|none=>none
  | _,_=>none
def Iq(ob:Nat->Option AO)(d:DV)(y:XA):Option (List (Nat×AO)) :=
 match d with
 | .one (.c (.ptr L 0))=>match ob L with
  | some (.box TZ cells)=>match y with
   | .box ty cs=>match Nat.beq ty TZ,gG cells cs with|true,some (l,u)=>some ((L,.box ty l)::u)|_,_=>none
   | .d _=>none
  | _=>match y with|.d _=>some []|.box _ _=>none
 | _=>match y with|.d _=>some []|.box _ _=>none
def jG(ob:Nat→Option AO):List DV→List XA→Option (List (Nat×AO))
  | [],[]=>some []
  | d::ds,y::ys=>match Iq ob d y,jG ob ds ys with|some u,some us=>some (u++us)|_,_=>none
  | _,_=>none
def lu:List Nat→Bool|[]=>true|x::r=>!r.contains x&&lu r
def kT:AO→Bool|.box _ [.clo _ _]=>true|_=>false
def zuR(ty:Nat)(k:IntKind)(n:Int):List PA:=[.one (.fna 4294967295 [.int .i64 ty,.int k n])]
def zmj(ty:Nat)(k:IntKind)(n:Int):List PanicEntry:=[{v:=.iface ty (.agg #[.int k n]),recovered:=false}]
def EX:List PA→Option (List PanicEntry)
  | [.one (.fna f [.int _ ty,.int k n])]=>match Nat.beq f 4294967295 with|true=>some (zmj ty.toNat k n)|false=>none
  | _=>none
def chR:List PanicEntry→Option (List PA)|[⟨.iface ty (.agg ⟨[.int k n]⟩),false,false⟩]=>some (zuR ty k n)|_=>none
theorem zCk{ch:List PanicEntry}{rs:List PA}(h:chR ch=some rs):EX rs=some ch:=by
 unfold chR at h;split at h;cases h;rfl;cases h
def pG(args:List DV)(ob:Nat->Option AO)(ls ms:List Nat)(rs:List PA)(ys:List XA):aA:=match jG ob args ys with
 | some u=>match lu ls&&Nat.ble ms.length 1&&ms.all λM=>((u.filter λx=>!kT x.2).map (·.1)).contains M with|true=>.val (wr ((u.filter λx=>!kT x.2).map (·.1))++rd (args.flatMap (bi ob))) (resD rs) (u.filter λx=>!kT x.2) ms|false=>.no
 | none=>.no
def sF(C:MK)(sf:kS)(args:List DV)(ob:Nat->Option AO):aA :=
 match jP sf ob args with
 | some (xs,ls,ms)=>match(C xs).o with
  | some (rs,ys)=>match EX rs with|none=>pG args ob ls ms rs ys|some _=>.no
  | none=>.no
 | none=>.no
def OQ(ev:Operand→DV):List Operand→List Operand→Option (List PV)
  | [x],[]=>match ev x with|.one (.agg cs)=>jO cs|_=>none
  | _,_=>none
def EY(d:DV)(ob:Nat->Option AO):Option (Nat×Nat×(Nat->List PV)×List (Nat×Bool)) :=
 match d with
 | .one (.c (.p (.sl n sz get)))=>some (n,sz,get,[])
 | .one (.c (.vec M))=>match ob M with|some (.vec _ sz _ n get)=>some (n,sz,get,[(M,false)])|some (.fvec sz n get)=>some (n,sz,get,[(M,false)])|_=>none
 | _=>none
def Qy(e:Nat)(ie:TypeInfo)(dst:Nat)(x s:DV)(ob:Nat->Option AO):aA :=
 match EY x ob with
 | some (m,sz,new,fps)=>match s with
  | .one (.c (.vec L))=>match ob L with
   | some (.vec e' s' b' n get)=>if e'=e/\s'=ie.size/\b'=ie.bytes/\sz=s'/\0<s'/\bQ x≠[L]/\smL (get 0) (new 0)=true then
     .chk ((L,true)::fps) ((n+m)*b'<=140737488355328/\n+m<=9223372036854775807) (.cl (.vec L)) [(L,.vec e s' b' (n+m) (nzG (get 0) (appG n get new)))] [L]
    else .no
   | _=>.no
  | .one (.c (.p .nils))=>match ob dst with
   | none=>if sz=ie.size/\0<sz then
     .chk ((dst,true)::fps) (m*ie.bytes<=140737488355328/\m<=9223372036854775807) (.cl (.vec dst)) [(dst,.vec e sz ie.bytes m new)] []
    else .no
   | some _=>.no
  | _=>.no
 | none=>.no
def aPk(ev:Operand->DV)(c a b:Operand):aA:=match ev c with|.one (.c (.p (.bool t)))=>.val [] (zQ t (ev a) (ev b)) [] []|_=>.no
def aAl(o:Oper)(ev:Operand->DV)(ob:Nat->Option AO)(e:TypeId):aA:=match gu P e with|some z=>EW ob o.dst (.box e z) λt=>.cl (.ptr t 0)|none=>.no
def aBx(o:Oper)(ev:Operand->DV)(ob:Nat->Option AO)(e:TypeId)(x:Operand):aA:=match ev x,oP P e with
  | .one d,some n=>match Nat.beq d.cells.length n&&d.cells.all BI with|true=>EW ob o.dst (.box e d.cells) λt=>.cl (.ptr t 0)|false=>.no
  | _,_=>.no
def aBd(ev:Operand->DV)(t:TypeId)(parts:Array (Nat×Operand)):aA:=match xI P t,gu P t with
  | true,some z=>match gY P t ev z parts.toList with|some l=>.val [] (.one (.agg l)) [] []|none=>.no
  | _,_=>.no
def aBs(o:Oper)(ev:Operand->DV)(ob:Nat->Option AO)(t:TypeId)(n:Nat)(parts:Array (Nat×Operand)):aA:=match P.underlying t with
  | some (.slice e)=>match P.info? e with
   | some ie=>match jd ob ev ie.size 0 parts.toList with
    | some (ls,u,iW)=>match Nat.beq ls.length n&&Nat.ble (n*ie.size) 1000000&&Nat.ble 1 ie.size&&smA (ls.map (zB P e)),gu P e,o.dst with
     | true,some _,some dst=>match ob dst with|none=>.val (wr iW++[(dst,true)]) (.cl (.vec dst)) ((dst,.vec e ie.size ie.bytes n (nzG (Am (ls.map (zB P e)) 0) (Am (ls.map (zB P e)))))::u) []|some _=>.no
     | _,_,_=>.no
    | none=>.no
   | none=>.no
  | _=>.no
def aLd(o:Oper)(ev:Operand->DV)(ob:Nat->Option AO)(t:TypeId)(a:Operand):aA:=match jb P t,oP P t with
  | some g,some n=>match ev a with
   | .one (.c (.ptr L off))=>match ob L with
    | some (.box _ cells)=>match kL g n cells off with|some d=>.val [(L,false)] (.one d) [] []|none=>.no
    | some (.fbox cells)=>match kL g n (cells.map .p) off with|some d=>.val [(L,false)] (.one d) [] []|none=>.no
    | _=>.no
   | .one (.c (.p (.fp cells off)))=>match kL g n (cells.map .p) off with|some d=>.val [] (.one d) [] []|none=>.no
   | .one (.c (.vptr L s i k))=>match ob L with
    | some (.vec _ s' _ len get)=>match Nat.beq s s',kL g n ((get i).map .p) k with|true,some d=>.chk [(L,false)] (i<len) (.one d) [] []|_,_=>.no
    | some (.fvec s' len get)=>match Nat.beq s s',kL g n ((get i).map .p) k with|true,some d=>.chk [(L,false)] (i<len) (.one d) [] []|_,_=>.no
    | some (.vv _ _ _ _ _ _ _ _)=>match Nat.beq s 1&&Nat.beq k 0,g with
     | true,false=>match o.dst with
      | some dst=>match ob dst,ob L with|none,some (.vv te bb e s' b len ln get)=>.chk [(L,true),(dst,true)] (i<len) (.cl (.vec dst)) [(dst,.vec e s' b (ln i) (get i)),(L,.vt te bb e s' b len ln get i)] []|_,_=>.no
      | none=>.no
     | _,_=>.no
    | _=>.no
   | _=>.no
  | _,_=>.no
def aSt(ev:Operand->DV)(ob:Nat->Option AO)(t:TypeId)(a x:Operand):aA:=match oP P t,ev a,ev x with
  | some n,.one (.c (.ptr L off)),.one d=>match ob L with
   | some (.box ty cells)=>match Nat.beq d.cells.length n&&Nat.ble (off+n) cells.length&&d.cells.all BI with|true=>.val [(L,true)] .junk [(L,.box ty (spl cells off d.cells))] []|false=>.no
   | _=>.no
  | some n,.one (.c (.vptr L s i k)),.one d=>match ob L with
   | some (.vec e s' b len get)=>match jO d.cells with
    | some l=>match Nat.beq s s'&&Nat.beq l.length n&&Nat.ble (k+n) s&&smL (((get 0).drop k).take n) l with|true=>.chk [(L,true)] (i<len) .junk [(L,.vec e s' b len (nzG (get 0) (zA i k get l)))] []|false=>.no
    | none=>.no
   | some (.vt te bb e s' OB len ln get ii)=>match d with
    | .c (.vec M)=>match ob M with
     | some (.vec e2 s2 b2 m lU)=>match Nat.beq s 1&&Nat.beq k 0&&Nat.beq n 1 && !Nat.beq L M with
      | true=>if e2=e/\s2=s'/\b2=OB/\smL (get 0 0) (lU 0)=true then
        .chk [(L,true),(M,true)] (i<len/\i=ii/\0<m) .junk [(L,.vv te bb e s' OB len (l7 i m ln) (zfV (get 0 0) (l7 i lU get))),(M,.gone)] []
       else .no
      | false=>.no
     | _=>.no
    | _=>.no
   | _=>.no
  | _,_,_=>.no
def aNc(ev:Operand->DV)(x:Operand):aA:=match ev x with|.one (.c (.ptr L off))=>.val [] (.cl (.ptr L off)) [] []|.one (.c (.p (.fp c off)))=>.val [] (.p (.fp c off)) [] []|.one (.c (.vptr L s i k))=>.val [] (.cl (.vptr L s i k)) [] []|_=>.no
def aBn(ev:Operand->DV)(op:BinOp)(t:TypeId)(x y:Operand):aA:=match ev x,ev y with
  | .one (.c (.p (.int k a))),.one (.c (.p (.int k' b)))=>if k=k' then Uh op k a b else zfX op k a b
  | .one (.c (.p (.bool a))),.one (.c (.p (.bool b)))=>match P.underlying t,op with|some .bool,.eql=>.val [] (.bool (a==b)) [] []|some .bool,.neq=>.val [] (.bool (a != b)) [] []|_,_=>.no
  | .one (.agg cs),.one (.agg ds)=>zav P op t cs ds
  | _,_=>.no
def aUn(ev:Operand->DV)(op:UnOp)(x:Operand):aA:=match op,ev x with|.not,.one (.c (.p (.bool a)))=>.val [] (.bool (!a)) [] []|.neg,.one (.c (.p (.int k a)))=>.val [] (.p (.int k (k.wrap (0-a)))) [] []|_,_=>.no
def aCv(ev:Operand->DV)(t1 t2:TypeId)(x:Operand):aA:=match P.underlying t1,P.underlying t2,ev x with|some _,some (.int k),.one (.c (.p (.int _ n)))=>.val [] (.p (.int k (k.wrap n))) [] []|_,_,_=>.no
def aFa(ev:Operand->DV)(t:TypeId)(x:Operand)(f:Nat):aA:=match JF P t f with
  | some off=>match ev x with|.one (.c (.ptr L k))=>.val [] (.cl (.ptr L (k+off))) [] []|.one (.c (.p (.fp c k)))=>.val [] (.p (.fp c (k+off))) [] []|.one (.c (.vptr L s i k))=>.val [] (.cl (.vptr L s i (k+off))) [] []|_=>.no
  | none=>.no
def aIa(ev:Operand->DV)(ob:Nat->Option AO)(t:TypeId)(x i:Operand):aA:=match P.underlying t with
  | some (.slice e)=>match oP P e,ev i with
   | some n,.one (.c (.p (.int _ j)))=>match ev x with
    | .one (.c (.p (.sl len s get)))=>if s=n then .chk [] (0<=j/\j<(len:Int)) (.p (.fp (get j.toNat) 0)) [] []else .no
    | .one (.c (.vec L))=>match ob L with
     | some (.vec _ s _ len _)=>if s=n then .chk [(L,false)] (0<=j/\j<(len:Int)) (.cl (.vptr L s j.toNat 0)) [] []else .no
     | some (.fvec s len get)=>if s=n then .chk [(L,false)] (0<=j/\j<(len:Int)) (.p (.fp (get j.toNat) 0)) [] []else .no
     | some (.vv _ _ _ _ _ len _ _)=>if n=1 then .chk [(L,false)] (0<=j/\j<(len:Int)) (.cl (.vptr L 1 j.toNat 0)) [] []else .no
     | some (.vt _ _ _ _ _ len _ _ _)=>if n=1 then .chk [(L,false)] (0<=j/\j<(len:Int)) (.cl (.vptr L 1 j.toNat 0)) [] []else .no
     | _=>.no
    | _=>.no
   | _,_=>.no
  | some (.array n e)=>BJ P n e (ev x) (ev i)
  | _=>.no
def aMm(o:Oper)(ev:Operand->DV)(ob:Nat->Option AO)(t:TypeId):aA:=match zuL Γ o.dst with
  | true=>match P.underlying t with
   | some (.map kt vt)=>match JD P kt vt with|some q=>EW ob o.dst (.mo kt vt q 0 (λ_=>none)) λt=>.cl (.mo t)|none=>.no
   | _=>.no
  | false=>.no
def aLn(ev:Operand->DV)(ob:Nat->Option AO)(args:Array Operand)(argTypes:Array TypeId):aA:=match args.toList,argTypes.toList with
  | [x],[t]=>match P.underlying t with
   | some (.slice _)=>match ev x with
    | .one (.c (.p (.sl n _ _)))=>.val [] (.int n) [] []
    | .one (.c (.p .nils))=>.val [] (.int 0) [] []
    | .one (.c (.vec L))=>match ob L with|some (.vec _ _ _ n _)=>.val [(L,false)] (.int n) [] []|some (.fvec _ n _)=>.val [(L,false)] (.int n) [] []|some (.vv _ _ _ _ _ n _ _)=>.val [(L,false)] (.int n) [] []|_=>.no
    | _=>.no
   | some (.map _ _)=>match ev x with
    | .one (.c (.mo L))=>match ob L with|some (.mo _ _ _ n _)=>.val [(L,false)] (.int n) [] []|_=>.no
    | _=>.no
   | _=>.no
  | _,_=>.no
def aMx(ev:Operand->DV)(args:Array Operand):aA:=match args.toList.map ev with
  | [.one (.c (.p (.int k a))),.one (.c (.p (.int _ b)))]=>.val [] (.p (.int k (if b>a then b else a))) [] []
  | _=>.no
def aMi(ev:Operand->DV)(args:Array Operand):aA:=match args.toList.map ev with
  | [.one (.c (.p (.int k a))),.one (.c (.p (.int _ b)))]=>.val [] (.p (.int k (if b<a then b else a))) [] []
  | _=>.no
def aAp(o:Oper)(ev:Operand->DV)(ob:Nat->Option AO)(args:Array Operand)(argTypes:Array TypeId):aA:=match args.toList,argTypes.toList with
  | [s,x],[t,t']=>match P.underlying t,Nat.beq t t',o.dst with
   | some (.slice e),true,some dst=>match P.info? e,gu P e with|some ie,some _=>Qy e ie dst (ev x) (ev s) ob|_,_=>.no
   | _,_,_=>.no
  | _,_=>.no
def aCl(o:Oper)(ev:Operand->DV)(ob:Nat->Option AO)(f:Operand)(args:Array Operand):aA:=match ev f with
    | .one (.c (.clo g caps))=>match Γ.mt g with|some C=>sF C (zcT g args.size caps) (args.toList.map ev++caps.map capD) ob|none=>.no
    | .one (.c (.p (.fn g first caps)))=>match Γ.mt g with
     | some C=>sF C none (first.map (λv=>.p v)++args.toList.map ev++caps.map (λv=>.p v)) ob
     | none=>match(Γ.own g).on with
     | true=>match first,caps with|[],[]=>jY P Γ o (Γ.own g) (args.toList.map ev) ob|_,_=>.no
     | false=>match gQ ob (args.toList.map ev)with
      | some (az,u)=>match(Γ.fn g (first.map .one++az++caps.map .one)).o with|some r=>kZ (args.toList.flatMap λx=>bi ob (ev x)) u r|none=>.no
      | none=>.no
    | .one (.c (.p (.fna g cells)))=>match gQ ob (args.toList.map ev)with
      | some (az,u)=>match(Γ.fn g (.agg cells::az)).o with|some r=>kZ (args.toList.flatMap λx=>bi ob (ev x)) u r|none=>.no
      | none=>.no
    | _=>.no
def aMf(ev:Operand->DV)(ob:Nat->Option AO)(f:FuncId)(first caps:Array Operand):aA:=match(Γ.mt f).isSome with
   | true=>match first.toList,BN ev caps.toList with|[],some l=>.val [] (.cl (.clo f l)) [] []|_,_=>.no
   | false=>match OQ ev first.toList caps.toList with
    | some l=>.val [] (.p (.fna f l)) [] []
    | none=>match su ob (first.toList.flatMap λx=>match ev x with | .one (.c c)=>[c]|_=>[.junk]),su ob (caps.toList.flatMap λx=>match ev x with | .one (.c c)=>[c]|_=>[.junk])with
    | some (l,u),some (l',u')=>.val (wr ((first.toList++caps.toList).flatMap λx=>bi ob (ev x))) (.p (.fn f l l')) (u++u') []
    | _,_=>.no
def aEx(ev:Operand->DV)(t:Operand)(i:Nat):aA:=match ev t with
  | .tup ds=>match ds[i]? with|some d=>.val [] (.one d) [] []|none=>.no
  | _=>.no
def act(o:Oper)(ev:Operand->DV)(ob:Nat->Option AO):aA :=
 match o.op with
 | .move x=>.val [] (ev x) [] []
 | .assign x=>.val [] (ev x) [] []
 | .pick c a b=>aPk ev c a b
 | .alloc e=>aAl P o ev ob e
 | .box e x=>aBx P o ev ob e x
 | .build t parts=>aBd P ev t parts
 | .buildSlice t n parts=>aBs P o ev ob t n parts
 | .load t a=>aLd P o ev ob t a
 | .store t a x=>aSt P ev ob t a x
 | .nilCheck x=>aNc ev x
 | .binOp op t x y _=>aBn P ev op t x y
 | .unOp op _ x=>aUn ev op x
 | .convert t1 t2 x=>aCv P ev t1 t2 x
 | .fieldAddr t x f=>aFa P ev t x f
 | .indexAddr t x i=>aIa P ev ob t x i
 | .index t x i=>JB P t (ev x) (ev i)
 | .field t x f=>JC P t (ev x) f
 | .slice t x lo hi none=>BL P t (ev x) (EU ev lo) (EU ev hi)
 | .lookup t m k ok=>JE P t (ev m) (ev k) ok ob
 | .mapUpdate t m k v=>Ui P t (ev m) (ev k) (ev v) ob
 | .makeMap t none=>aMm P Γ o ev ob t
 | .makeSlice t x y=>rF P Γ t (ev x) (ev y) o.dst ob
 | .call {callee:=.builtin .len,args,argTypes}=>aLn P ev ob args argTypes
 | .call {callee:=.builtin .max,args,argTypes:=_}=>aMx ev args
 | .call {callee:=.builtin .min,args,argTypes:=_}=>aMi ev args
 | .call {callee:=.builtin .append,args,argTypes}=>aAp P o ev ob args argTypes
 | .call {callee:=.value f,args,argTypes:=_}=>aCl P Γ o ev ob f args
 | .makeFunc (.func f) first caps=>aMf Γ ev ob f first caps
 | .extract t i=>aEx ev t i
 | _=>.no
end Go.Pm
namespace Go.Pm
def RL{α β:Type}(R:α→β→Prop):List α→List β→Prop|[],[]=>True|a::l,b::m=>R a b/\RL R l m|_,_=>False
section rl
variable{α β:Type}{R R':α->β->Prop}
theorem RL.length{l:List α}{m:List β}(h:RL R l m):l.length=m.length:=by
 induction l generalizing m with
 | nil=>cases m with|nil=>rfl|cons=>exact h.elim
 | cons a l ih=>cases m with|nil=>exact h.elim|cons b m=>simp[ih h.2]
theorem RL.mono{l:List α}{m:List β}(h:RL R l m)(hr:∀a b,R a b->R' a b):RL R' l m:=by
 induction l generalizing m with
 | nil=>cases m with|nil=>trivial|cons=>exact h.elim
 | cons a l ih=>cases m with|nil=>exact h.elim|cons b m=>exact⟨hr _ _ h.1,ih h.2⟩
theorem RL.mono_mem{l:List α}{m:List β}(h:RL R l m)(hr:∀a b,a∈l->R a b->R' a b):RL R' l m:=by
 induction l generalizing m with
 | nil=>cases m with|nil=>trivial|cons=>exact h.elim
 | cons a l ih=>cases m with|nil=>exact h.elim|cons b m=>exact⟨hr _ _ jM h.1,ih h.2 λx y hx=>hr x y (jB _ hx)⟩
theorem RL.get{l:List α}{m:List β}(h:RL R l m):∀(j:Nat)(a:α),l[j]? = some a->∃b,m[j]? = some b/\R a b:=by
 induction l generalizing m with
 | nil=>intro j a hj;simp at hj
 | cons x l ih=>cases m with
  | nil=>exact h.elim
  | cons b m =>
   intro j a hj;cases j with
   | zero=>simp at hj;subst hj;exact⟨b,rfl,h.1⟩
   | succ j=>simp at hj;obtain⟨b',h1,h2⟩:=ih h.2 j a hj;exact⟨b',by simpa using h1,h2⟩
theorem RL.get'{l:List α}{m:List β}(h:RL R l m):∀(j:Nat)(b:β),m[j]? = some b->∃a,l[j]? = some a/\R a b:=by
 induction l generalizing m with
 | nil=>cases m with|nil=>intro j b hj;simp at hj|cons=>exact h.elim
 | cons x l ih=>cases m with
  | nil=>exact h.elim
  | cons y m =>
   intro j b hj;cases j with
   | zero=>simp at hj;subst hj;exact⟨x,rfl,h.1⟩
   | succ j=>simp at hj;obtain⟨b',h1,h2⟩:=ih h.2 j b hj;exact⟨b',by simpa using h1,h2⟩
theorem RL.of_get{l:List α}{m:List β}(hl:l.length=m.length)(h:∀(j:Nat)(a:α)(b:β),l[j]? = some a->m[j]? = some b->R a b):RL R l m:=by
 induction l generalizing m with
 | nil=>cases m with|nil=>trivial|cons=>simp at hl
 | cons x l ih=>cases m with
  | nil=>simp at hl
  | cons y m =>
   refine⟨h 0 x y rfl rfl,ih (by simpa using hl) λj a b ha hb=>h (j+1) a b (by simpa using ha) (by simpa using hb)⟩
theorem RL.append{l l':List α}{m m':List β}(h:RL R l m)(h':RL R l' m'):RL R (l++l') (m++m'):=by
 induction l generalizing m with
 | nil=>cases m with|nil=>exact h'|cons=>exact h.elim
 | cons a l ih=>cases m with|nil=>exact h.elim|cons b m=>exact⟨h.1,ih h.2⟩
theorem RL.set{l:List α}{m:List β}(h:RL R l m)(i:Nat){a:α}{b:β}(hab:R a b):RL R (l.set i a) (m.set i b):=by
 induction l generalizing m i with
 | nil=>cases m with|nil=>trivial|cons=>exact h.elim
 | cons x l ih=>cases m with
  | nil=>exact h.elim
  | cons y m=>cases i with|zero=>exact⟨hab,h.2⟩|succ i=>exact⟨h.1,ih h.2 i⟩
theorem RL.spl{l l':List α}{m m':List β}(h:RL R l m)(h':RL R l' m')(off:Nat):RL R (spl l off l') (Pm.spl m off m'):=by
 induction l' generalizing l m m' off with
 | nil=>cases m' with|nil=>simpa [Pm.spl]using h|cons=>exact h'.elim
 | cons x l' ih=>cases m' with|nil=>exact h'.elim|cons y m'=>simp only[Pm.spl];exact ih (h.set off h'.1) h'.2 _
theorem RL.drop{l:List α}{m:List β}(h:RL R l m)(n:Nat):RL R (l.drop n) (m.drop n):=by
 induction n generalizing l m with
 | zero=>simpa using h
 | succ n ih=>cases l with
  | nil=>cases m with|nil=>trivial|cons=>exact h.elim
  | cons a l=>cases m with|nil=>exact h.elim|cons b m=>simpa using ih h.2
theorem RL.take{l:List α}{m:List β}(h:RL R l m)(n:Nat):RL R (l.take n) (m.take n):=by
 induction n generalizing l m with
 | zero=>simp[RL]
 | succ n ih=>cases l with
  | nil=>cases m with|nil=>trivial|cons=>exact h.elim
  | cons a l=>cases m with|nil=>exact h.elim|cons b m=>exact⟨h.1,ih h.2⟩
theorem RL.map_left{γ:Type}{f:γ->α}{l:List γ}{m:List β}:RL R (l.map f) m↔RL (λx y=>R (f x) y) l m:=by
 induction l generalizing m with|nil=>cases m<;>simp[RL]|cons a l ih=>cases m<;>simp[RL,ih]
end rl
def atP:PV→Bool|.int _ _=>false|.bool _=>false|.sl _ _ _=>false|.fp _ _=>false|_=>true
inductive Sm:PV→PV→Prop
  | int (k:IntKind) (a b:Int):Sm (.int k a) (.int k b)
  | bool (a b:Bool):Sm (.bool a) (.bool b)
  | sl (n m s:Nat) (g g':Nat->List PV) (hl:∀i j:Nat,(g i).length=(g' j).length) (h:∀(i j k:Nat)(x y:PV),(g i)[k]? = some x->(g' j)[k]? = some y->Sm x y):Sm (.sl n s g) (.sl m s g')
  | fp (l l':List PV) (o:Nat) (hl:l.length=l'.length) (h:∀(k:Nat)(x y:PV),l[k]? = some x->l'[k]? = some y->Sm x y):Sm (.fp l o) (.fp l' o)
  | atom (p:PV) (h:atP p=true):Sm p p
theorem Sm.symm{x y:PV}(h:Sm x y):Sm y x:=by
 induction h with|int k a b=>exact .int k b a|bool a b=>exact .bool b a|sl n m s g g' hl h ih=>exact .sl m n s g' g (λi j=>(hl j i).symm) λi j k x y hx hy=>ih j i k y x hy hx|fp l l' o hl h ih=>exact .fp l' l o hl.symm λk x y hx hy=>ih k y x hy hx|atom p h=>exact .atom p h
theorem nV{α β:Type}{l:List α}{m:List β}{k:Nat}{x:α}(h:l.length=m.length)(hx:l[k]? = some x):∃y,m[k]? = some y:=by
 obtain⟨hk,_⟩:=ER.1 hx;exact⟨_,Ai (h▸hk)⟩
theorem Sm.trans{x y:PV}(h:Sm x y):∀{z:PV},Sm y z->Sm x z:=by
 induction h with
 | int k a b=>intro z h;cases h with|int _ _ c=>exact .int k a c|atom _ h=>cases h
 | bool a b=>intro z h;cases h with|bool _ c=>exact .bool a c|atom _ h=>cases h
 | sl n m s g g' hl h ih=>intro z h';cases h' with
  | sl _ m' _ _ g2 vk h' =>
   refine .sl n m' s g g2 (λi j=>(hl i 0).trans (vk 0 j)) λi j k x z hx hz=>?_;obtain⟨y,hy⟩:=nV (hl i 0) hx;exact ih i 0 k x y hx hy (h' 0 j k y z hy hz)
  | atom _ h=>cases h
 | fp l l' o hl h ih=>intro z h';cases h' with
  | fp _ l2 _ vk h' =>
   refine .fp l l2 o (hl.trans vk) λk x z hx hz=>?_;obtain⟨y,hy⟩:=nV hl hx;exact ih k x y hx hy (h' k y z hy hz)
  | atom _ h=>cases h
 | atom p h=>intro z h';exact h'
abbrev RS:List PV->List PV->Prop:=RL Sm
def tX(g:Nat->List PV):Prop:=∀i j,RS (g i) (g j)
theorem RS.symm{l m:List PV}(h:RS l m):RS m l:=by
 refine RL.of_get h.length.symm λj a b ha hb=>?_;obtain⟨y,hy,r⟩:=RL.get h j b hb;rw[ha]at hy;cases hy;exact r.symm
theorem RS.trans{l m n:List PV}(h:RS l m)(h':RS m n):RS l n:=by
 refine RL.of_get (h.length.trans h'.length) λj a b ha hb=>?_;obtain⟨y,hy,r⟩:=RL.get h j a ha;obtain⟨z,hz,r'⟩:=RL.get h' j y hy;rw[hb]at hz;cases hz;exact r.trans r'
theorem tX.sl{g g':Nat->List PV}(h:∀i j,RS (g i) (g' j))(n m s:Nat):Sm (.sl n s g) (.sl m s g') :=
 .sl n m s g g' (λi j=>(h i j).length) λi j k x y hx hy=>by
  obtain⟨z,hz,r⟩:=RL.get (h i j) k x hx;rw[hy]at hz;cases hz;exact r
theorem Sm.rows{n m s s':Nat}{g g':Nat->List PV}(h:Sm (.sl n s g) (.sl m s' g')):s=s'/\∀i j,RS (g i) (g' j):=by
 cases h with|sl _ _ _ _ _ hl h=>exact⟨rfl,λi j=>RL.of_get (hl i j) λk a b ha hb=>h i j k a b ha hb⟩|atom _ h=>cases h
theorem zuT:∀{d:Nat}{p q:PV},smB d p q=true->Sm p p->Sm q q->Sm p q:=by
 intro d
 induction d with
 | zero=>intro p q h;cases h
 | succ d ih =>
  have key:∀{l m:List PV},(Nat.beq l.length m.length&&(l.zip m).all λz=>smB d z.1 z.2)=true->RS l l->RS m m->RS l m:=by
   intro l m h hl hm;rw[fH]at h;refine RL.of_get (kY h.1) λj a b ha hb=>?_;obtain⟨_,ha',ra⟩:=RL.get hl j a ha;obtain⟨_,lS,rb⟩:=RL.get hm j b hb;rw[ha]at ha';rw[hb]at lS;cases ha';cases lS;exact ih (Aj.1 h.2 (a,b) (Jy (i:=j) (by rw[jqr];exact⟨ha,hb⟩))) ra rb
  intro p q h hp hq;unfold smB at h;split at h;have:=qde h;subst this;exact .int _ _ _;exact .bool _ _;rw [fH]at h;have e:=kY h.1;subst e;have h0:=key h.2 (hp.rows.2 0 0) (hq.rows.2 0 0);exact tX.sl (λi j=>((hp.rows.2 i 0).trans h0).trans (hq.rows.2 0 j)) _ _ _;rw [fH]at h;have e:=kY h.1;subst e;have OC:∀{l:List PV}{o:Nat},Sm (.fp l o) (.fp l o)->RS l l:=by
   intro l o h;cases h with|fp _ _ _ hl h=>exact RL.of_get hl λk a b ha hb=>h k a b ha hb|atom _ h=>cases h
  have h0:=key h.2 (OC hp) (OC hq);exact .fp _ _ _ h0.length λk x y hx hy=>by
   obtain⟨z,hz,r⟩:=RL.get h0 k x hx;rw[hy]at hz;cases hz;exact r
  exact hp;exact hp;exact hp;exact hp;cases h
theorem Sm.cells{l l':List PV}{o:Nat}(h:Sm (.fp l o) (.fp l' o)):RS l l':=by
 cases h with|fp _ _ _ hl h=>exact RL.of_get hl λk a b ha hb=>h k a b ha hb|atom _ h=>cases h
theorem Sm.fp'{l l':List PV}{o:Nat}(h:RS l l'):Sm (.fp l o) (.fp l' o):=.fp _ _ _ h.length λk x y hx hy=>by
 obtain⟨z,hz,r⟩:=RL.get h k x hx;rw[hy]at hz;cases hz;exact r
theorem JK{l m:List PV}(h:smL l m=true)(hl:RS l l)(hm:RS m m):RS l m:=by
 unfold smL at h;rw[fH]at h;refine RL.of_get (kY h.1) λj a b ha hb=>?_;obtain⟨_,ha',ra⟩:=RL.get hl j a ha;obtain⟨_,lS,rb⟩:=RL.get hm j b hb;rw[ha]at ha';rw[hb]at lS;cases ha';cases lS;exact zuT (Aj.1 h.2 (a,b) (Jy (i:=j) (by rw[jqr];exact⟨ha,hb⟩))) ra rb
theorem zmm{n:Nat}{g new:Nat->List PV}(hg:tX g)(hn:tX new)(h:RS (g 0) (new 0)):tX (appG n g new):=by
 have h2:∀i j,RS (g i) (new j):=λi j=>((hg i 0).trans h).trans (hn 0 j);intro i j;unfold appG;split<;>split;exact hn _ _;exact(h2 _ _).symm;exact h2 _ _;exact hg _ _
theorem JL{c:List PV}(h:RS c c):tX λ_=>c:=λ_ _=>h
theorem vH{g:Nat->List PV}(h:tX g)(f:Nat->Nat):tX λi=>g (f i):=λ_ _=>h _ _
theorem Uk{l:List (List PV)}(h:∀c∈l,RS c c)(hs:smA l=true):tX (Am l):=by
 have key:∀c r,l=c::r->∀x∈l,RS c x:=by
  intro c r e x hx;subst e;simp only[smA,fH,Aj]at hs;rcases jW.1 hx with rfl|hx
  exact h _ jM;exact JK (hs.2 x hx) (h _ jM) (h _ (jB _ hx))
 unfold Am;split;exact λ_ _=>trivial;exact JL (h _ jM);rename_i c r _;have k2:∀i:Nat,RS c (match(c::r)[i]? with|some x=>x|none=>c):=λi=>by
  split;rename_i x hx;exact key c r rfl x (Jy hx);exact h _ jM
 exact λi j=>(k2 i).symm.trans (k2 j)
inductive oQ:PV→PV→Prop
  | rfl (p:PV):oQ p p
  | nil (s:Nat) (g:Nat->List PV) (h:tX g):oQ .nils (.sl 0 s g)
  | sl (n s:Nat) (g g':Nat->List PV) (hu:tX g') (hl:∀i:Nat,i<n->(g i).length=(g' i).length) (h:∀(i k:Nat)(x y:PV),i<n->(g i)[k]? = some x->(g' i)[k]? = some y->oQ x y):oQ (.sl n s g) (.sl n s g')
  | fp (l l':List PV) (o:Nat) (hl:l.length=l'.length) (h:∀(k:Nat)(x y:PV),l[k]? = some x->l'[k]? = some y->oQ x y):oQ (.fp l o) (.fp l' o)
  | fn (f:FuncId) (a a' l l':List PV) (ha:a.length=a'.length) (h0:∀(k:Nat)(x y:PV),a[k]? = some x->a'[k]? = some y->oQ x y) (hl:l.length=l'.length) (h:∀(k:Nat)(x y:PV),l[k]? = some x->l'[k]? = some y->oQ x y):oQ (.fn f a l) (.fn f a' l')
theorem kD{f:PV→PV→PV}(hf:∀a b,Sm a b→f a b=b):∀{l m:List PV},RS l m→Io f l m=m|[],[],_=>rfl|_::_,_::_,h=>by simp only[Io,qd9,List.tail_cons,hf _ _ h.1,kD hf h.2]|[],_::_,h=>h.elim|_::_,[],h=>h.elim
theorem oU:∀(d:Nat)(a b:PV),Sm a b→shp d a b=b
  | 0,_,_,_=>rfl
  | d+1,a,b,h=>by
    cases h with
    | int=>rfl
    | bool=>rfl
    | sl n m s g g' hl hg =>
      have hr:=(Sm.rows (.sl n m s g g' hl hg)).2;simp only[shp];congr 1;funext i;exact kD (oU d) (hr 0 i)
    | fp l l' o hl hg =>
      simp only[shp];rw[kD (oU d) (Sm.cells (.fp l l' o hl hg))]
    | atom _ ha=>cases a<;>first|rfl|cases ha
theorem Yk{row:List PV}{g:Nat->List PV}(h:∀i,RS row (g i)):nzG row g=g:=by
 funext i;exact kD (oU 8) (h i)
theorem zmn{row:List PV}{g:Nat->Nat->List PV}(h:∀i j,RS row (g i j)):zfV row g=g:=by
 funext i j;exact kD (oU 8) (h i j)
structure Sl (α : Type) where
  len:Nat
  get:Nat->α
instance{α:Type}[Inhabited α]:Inhabited (Sl α):=⟨⟨0,λ_=>default⟩⟩
class bn (α : Type) where
  enc:α->List PV
  dec:List PV->α×List PV
  ck:List PV->Option (List PV)
  le:∀{l r:List PV},RS l l->ck l=some r->∃k,l=k++r/\(dec l).2=r/\RL oQ k (enc (dec l).1)
  inv:∀{l m r:List PV},RS l m->ck l=some r->∃r',ck m=some r'/\RS r r'
  sm:∀a b:α,RS (enc a) (enc b)
  eq:α->α->Bool
  eqk:∀{a b:α},eq a b=true->RL oQ (enc a) (enc b)
instance : bn Int where
  enc x:=[.int .i64 x]
  dec l:=match l with | .int .i64 x::r=>(x,r)|_=>(0,[])
  ck l:=match l with | .int .i64 _::r=>some r|_=>none
  le:=by
    intro l r _ h;split at h;cases h;exact⟨[_],rfl,rfl,.rfl _,trivial⟩;cases h
  inv:=by
    intro l m r h hc;split at hc
    · cases hc
      match m,h with
      | y::m,h =>
        obtain⟨h,h2⟩:=h;cases h with|int=>exact⟨_,rfl,h2⟩|atom _ h=>cases h
    cases hc
  sm a b:=⟨.int _ _ _,trivial⟩
  eq a b:=decide (a=b)
  eqk h:=by rw[of_decide_eq_true h];exact⟨.rfl _,trivial⟩
instance : bn Bool where
  enc x:=[.bool x]
  dec l:=match l with | .bool x::r=>(x,r)|_=>(false,[])
  ck l:=match l with | .bool _::r=>some r|_=>none
  le:=by
    intro l r _ h;split at h;cases h;exact⟨[_],rfl,rfl,.rfl _,trivial⟩;cases h
  inv:=by
    intro l m r h hc;split at hc
    · cases hc
      match m,h with
      | y::m,h =>
        obtain⟨h,h2⟩:=h;cases h with|bool=>exact⟨_,rfl,h2⟩|atom _ h=>cases h
    cases hc
  sm a b:=⟨.bool _ _,trivial⟩
  eq a b:=a==b
  eqk h:=by rw[eq_of_beq h];exact⟨.rfl _,trivial⟩
def Ul(o:Option (List PV)):Bool:=match o with|some []=>true|_=>false
theorem Qz{o:Option (List PV)}(h:Ul o=true):o=some []:=by
 unfold Ul at h;split at h;rfl;cases h
theorem qC{α:Type}[bn α]{g:Nat->List PV}(h:tX g)(hc:Ul (bn.ck (α:=α) (g 0))=true)(i:Nat):RL oQ (g i) (bn.enc (bn.dec (α:=α) (g i)).1):=by
 obtain⟨r',e,hr⟩:=bn.inv (h 0 i) (Qz hc);cases r' with
 | nil =>
  obtain⟨k,e1,_,r⟩:=bn.le (h i i) e;rw[qjq]at e1;rw[<- e1]at r;exact r
 | cons=>exact hr.elim
def iL(p:Nat→Bool):Nat→Bool|0=>true|n+1=>iL p n&&p n
theorem QA{p:Nat→Bool}:∀{n:Nat},iL p n=true→∀i,i<n→p i=true
  | 0,_,i,hi=>absurd hi (dq8 i)
  | n+1,h,i,hi=>by
    simp only[iL,fH]at h;rcases Nat.lt_succ_iff_lt_or_eq.1 hi with h1|rfl
    exact QA h.1 i h1;exact h.2
instance {α : Type} [bn α] [Inhabited α] : bn (Sl α) where
  enc x:=[.sl x.len (bn.enc (default:α)).length (λi=>bn.enc (x.get i))]
  dec l:=match l with|.sl n _ g::r=>(⟨n,λi=>(bn.dec (g i)).1⟩,r)|.nils::r=>(⟨0,λ_=>default⟩,r)|_=>(⟨0,λ_=>default⟩,[])
  ck l:=match l with
    | .sl _ s g::r=>match Nat.beq s (bn.enc (default:α)).length&&Ul (bn.ck (α:=α) (g 0))with|true=>some r|false=>none
    | .nils::r=>some r
    | _=>none
  le:=by
    intro l r hl h;split at h;rename_i n s g r';split at h;rename_i hc;rw[Bool.and_eq_true]at hc;cases h;have e:=Nat.eq_of_beq_eq_true hc.1;subst e;have hu:tX g:=hl.1.rows.2;refine⟨[_],rfl,rfl,?_,trivial⟩;have hp:=λi=>qC (α:=α) hu hc.2 i;exact .sl _ _ _ _ (λi j=>bn.sm _ _) (λi _=>(hp i).length) λi k x y _ hx hy=>by
      obtain⟨z,hz,r⟩:=RL.get (hp i) k x hx;rw[hy]at hz;cases hz;exact r
    cases h;cases h;exact⟨[_],rfl,rfl,.nil _ _ λi j=>bn.sm _ _,trivial⟩;cases h
  inv:=by
    intro l m r h hc;split at hc;rename_i n s g r';split at hc
    · rename_i hs;cases hc
      match m,h with
      | y::m,h =>
        obtain⟨h,h2⟩:=h;cases h with
        | sl _ m' _ _ g' hl hg =>
          rw[Bool.and_eq_true]at hs;obtain⟨r',e,hr⟩:=bn.inv (α:=α) ((Sm.rows (.sl n m' s g g' hl hg)).2 0 0) (Qz hs.2);cases r' with|nil=>exact⟨m,by simp only[hs.1,e];rfl,h2⟩|cons=>exact hr.elim
        | atom _ h=>cases h
    cases hc
    · cases hc
      match m,h with
      | y::m,h =>
        obtain⟨h,h2⟩:=h;cases h with|atom _ _=>exact⟨m,rfl,h2⟩
    cases hc
  sm a b:=⟨tX.sl (λi j=>bn.sm _ _) _ _ _,trivial⟩
  eq a b:=Nat.beq a.len b.len&&iL (λi=>bn.eq (a.get i) (b.get i)) a.len
  eqk:=by
    intro a b h;obtain⟨n,f⟩:=a;obtain⟨m,f'⟩:=b;rw[Bool.and_eq_true]at h;have e:n=m:=Nat.eq_of_beq_eq_true h.1;subst e;have key:=λi (hi:i<n)=>bn.eqk (QA h.2 i hi);exact⟨.sl _ _ _ _ (λi j=>bn.sm _ _) (λi hi=>(key i hi).length) λi k x y hi hx hy=>by
      obtain⟨z,hz,r⟩:=RL.get (key i hi) k x hx;rw[hy]at hz;cases hz;exact r,trivial⟩
theorem zax{α β:Type}{R:α→β→Prop}:∀{a:List α}{b:List β}{c:List α}{d:List β},RL R a b→RL R c d→RL R (a++c) (b++d)|[],[],_,_,_,h=>h|_::_,_::_,_,_,h,h'=>⟨h.1,zax h.2 h'⟩
instance {α β : Type} [bn α] [bn β] : bn (α × β) where
  enc:=λx=>bn.enc x.1++bn.enc x.2
  dec:=λl=>(((bn.dec (α:=α) l).1,(bn.dec (α:=β) (bn.dec (α:=α) l).2).1),(bn.dec (α:=β) (bn.dec (α:=α) l).2).2)
  ck:=λl=>match bn.ck (α:=α) l with|some r=>bn.ck (α:=β) r|none=>none
  le:=by
    intro l r hl h;split at h;rename_i r1 h1;obtain⟨k1,e1,d1,p1⟩:=bn.le hl h1;obtain⟨r1',e1',s1⟩:=bn.inv hl h1;rw[h1]at e1';cases e1';obtain⟨k2,e2,d2,p2⟩:=bn.le s1 h;refine⟨k1++k2,by rw[List.append_assoc,<- e2];exact e1,?_,?_⟩;simp only[d1];exact d2;simp only[d1];exact zax p1 p2;cases h
  inv:=by
    intro l m r h hc;split at hc;rename_i r1 h1;obtain⟨r1',e1,s1⟩:=bn.inv h h1;obtain⟨r2',e2,s2⟩:=bn.inv s1 hc;exact⟨r2',by rw[e1];exact e2,s2⟩;cases hc
  sm a b:=zax (bn.sm _ _) (bn.sm _ _)
  eq a b:=bn.eq a.1 b.1&&bn.eq a.2 b.2
  eqk h:=by rw[Bool.and_eq_true]at h;exact zax (bn.eqk h.1) (bn.eqk h.2)
structure Pt (α : Type) where
  v:α
instance{α:Type}[Inhabited α]:Inhabited (Pt α):=⟨⟨default⟩⟩
instance {α : Type} [bn α] : bn (Pt α) where
  enc:=λx=>[.fp (bn.enc x.v) 0]
  dec:=λl=>match l with|.fp k _::r=>(⟨(bn.dec k).1⟩,r)|_=>(⟨(bn.dec []).1⟩,[])
  ck:=λl=>match l with
    | .fp k 0::r=>match Ul (bn.ck (α:=α) k)with|true=>some r|false=>none
    | _=>none
  le:=by
    intro l r hl h;split at h;split at h;rename_i hc;cases h;obtain⟨k',e1,_,p⟩:=bn.le hl.1.cells (Qz hc);rw[List.append_nil]at e1;rw[<- e1]at p;exact⟨[_],rfl,rfl,.fp _ _ _ p.length λk x y hx hy=>by
      obtain⟨z,hz,r⟩:=RL.get p k x hx;rw[hy]at hz;cases hz;exact r,trivial⟩
    cases h;cases h
  inv:=by
    intro l m r h hc;split at hc;split at hc
    · rename_i hs;cases hc
      match m,h with
      | y::m,h =>
        obtain⟨h,h2⟩:=h;cases h with
        | fp _ l' _ hl hg =>
          obtain⟨r',e,hr⟩:=bn.inv (α:=α) (Sm.cells (.fp _ _ 0 hl hg)) (Qz hs);cases r' with|nil=>exact⟨m,by simp only[e];rfl,h2⟩|cons=>exact hr.elim
        | atom _ h=>cases h
    cases hc;cases hc
  sm a b:=⟨Sm.fp' (bn.sm _ _),trivial⟩
  eq a b:=bn.eq a.v b.v
  eqk h:=⟨.fp _ _ _ (bn.eqk h).length λk x y hx hy=>by
    obtain⟨z,hz,r⟩:=RL.get (bn.eqk h) k x hx;rw[hy]at hz;cases hz;exact r,trivial⟩
abbrev bn.iso {α β : Type} [bn α] (f : α → β) (g : β → α) (hg : ∀ a, g (f a) = a) : bn β where
  enc:=λb=>bn.enc (g b)
  dec:=λl=>(f (bn.dec (α:=α) l).1,(bn.dec (α:=α) l).2)
  ck:=bn.ck (α:=α)
  le:=by
    intro l r hl h;rw[hg];exact bn.le hl h
  inv:=bn.inv
  sm a b:=bn.sm _ _
  eq a b:=bn.eq (g a) (g b)
  eqk h:=bn.eqk h
end Go.Pm
namespace Go.Pm
def JM(b:Bool)(x y:Prop):Prop:=match b with|true=>x|false=>y
theorem qp{b:Bool}{x y:Prop}:JM b x y↔((b=true->x)/\(b=false->y)):=by
 cases b<;>simp[JM]
theorem BO{b:Bool}{x y:Prop}(h1:b=true->x)(h2:b=false->y):JM b x y:=qp.2 ⟨h1,h2⟩
structure Keep where
  tmps:List Nat
  coT:List (Nat×Nat×Nat)
  coB:List (Nat×Nat×Nat×Nat)
  coV:List (Nat×Nat×Nat×Nat×Nat)
  coF:List Nat
  coZ:List Nat
  nf:List (Nat×Nat×Nat×Nat)
structure dI where
  nt:Nat
  reg:List (Nat×Keep)
  head:List (Nat×Keep)
  cut:List (Nat×Keep)
  unr:List (Nat×Nat×Keep)
  yl:List Nat
  pan:List Nat
def St.setT(σ:St)(t:Nat)(d:DV):St:={σ with env:=(t,d)::σ.env}
def eH(l:List Nat)(x:Cl):Cl :=
 match x with
 | .vec L=>match l.contains L with|true=>.dead L|false=>.vec L
 | .vptr L s i k=>match l.contains L with|true=>.dead L|false=>.vptr L s i k
 | .mo L=>match l.contains L with|true=>.dead L|false=>.mo L
 | x=>x
def fE(l:List Nat):D1→D1|.c x=>.c (eH l x)|.agg cs=>.agg (cs.map (eH l))
def fU(l:List Nat):DV→DV|.one d=>.one (fE l d)|.tup ds=>.tup (ds.map (fE l))
def dO(l:List Nat):AO→AO|.box ty cs=>.box ty (cs.map (eH l))|o=>o
def kills{α:Type}(f:α→α):List (Nat×α)→List (Nat×α)|[]=>[]|(k,a)::r=>(k,f a)::kills f r
def St.upd(σ:St)(_i:Nat)(dst:Option Nat)(_fp:List (Nat×Bool))(d:DV)(u:List (Nat×AO))(kill:List Nat):St :=
  match kill with
  | [] => { env := match dst with | some t => (t, d) :: σ.env | none => σ.env
            ay:=u++σ.ay
            log:=σ.log}
  | kill => { env := match dst with | some t => (t, d) :: kills (fU kill) σ.env | none => kills (fU kill) σ.env
              ay:=u++kills (dO kill) σ.ay
              log:=σ.log}
def St.skip(σ:St)(dst:Option Nat):St :=
 match dst with|some t=>σ.setT t (.cl .undef)|none=>σ
def dA(nt:Nat):Option Nat→Bool|none=>true|some t=>Nat.blt t nt
def St.relog(σ:St)(l:List (Nat×Nat×Nat)):St:={σ with log:=l++σ.log}
def JO(σ:St):List Nat→List Nat
  | []=>[]
  | L::_=>(σ.ay.map (·.1)).filter λk=>match lk σ.ay k with|some o=>(oh o).contains L|none=>false
def TS(σ:St)(o:Oper):Option (Nat×Nat):=match o.op with
 | .load _ a=>match dW σ.env a with
  | .one (.c (.ptr L off))=>match lk σ.ay L with|some (.box _ _)=>some (L,off)|_=>none
  | _=>none
 | _=>none
def zf5(σ:St)(o:Oper)(ob:AO):List Nat:=match TS σ o with
 | none=>oh ob
 | some (_,off)=>match ob with|.box _ cs=>(cs.drop off).flatMap lH|ob=>oh ob
def tY(σ:St)(o:Oper)(fp:List (Nat×Bool)):List Nat :=
 (o.op.operands.toList.flatMap λx=>kR (dW σ.env x))++fp.flatMap λx=>match lk σ.ay x.1 with|some ob=>zf5 σ o ob|none=>[]
def l9(σ:St)(i:Nat)(o:Oper)(fp:List (Nat×Bool))(kl:List Nat):List (Nat×Nat×Nat) :=
 (fp.map λx=>(i,x.1,match x.2 with|true=>1|false=>0))++((tY σ o fp).map λL=>(i,L,2))++(kl.map λL=>(i,L,3))++((JO σ kl).map λL=>(i,L,5))
def nC(A:aA)(lg:List (Nat×Bool)->List Nat->List (Nat×Nat×Nat))(i:Nat)(dst:Option Nat)(K:St->Prop)(σ:St):Prop :=
 match A with|.no=>False|.val fp d u kl=>K ((σ.upd i dst fp d u kl).relog (lg fp kl))|.chk fp s d u kl=>s.p/\K ((σ.upd i dst fp d u kl).relog (lg fp kl))
section
variable(P:Program)(Γ:bM)
def jQ(nt:Nat)(ops:Array Oper):Nat→List Oper→(St→Prop)→St→Prop
  | _,[],K,σ=>K σ
  | i,o::r,K,σ =>
    match dA nt o.dst with
    | false=>False
    | true =>
    match o.guard with
    | none=>nC (act P Γ o (dW σ.env) (lk σ.ay)) (l9 σ i o) i o.dst (jQ nt ops (i+1) r K) σ
    | some (j,want) =>
      match(ops[j]?).bind (·.dst)with
      | none=>False
      | some g =>
        match lk σ.env g with
        | some (.one (.c (.p (.bool b)))) =>
          JM b
            (match want with|true=>nC (act P Γ o (dW ((g,.bool true)::σ.env)) (lk σ.ay)) (l9 (σ.setT g (.bool true)) i o) i o.dst (jQ nt ops (i+1) r K) (σ.setT g (.bool true))|false=>jQ nt ops (i+1) r K ((σ.setT g (.bool true)).skip o.dst))
            (match want with|true=>jQ nt ops (i+1) r K ((σ.setT g (.bool false)).skip o.dst)|false=>nC (act P Γ o (dW ((g,.bool false)::σ.env)) (lk σ.ay)) (l9 (σ.setT g (.bool false)) i o) i o.dst (jQ nt ops (i+1) r K) (σ.setT g (.bool false)))
        | some (.one (.c .undef))=>jQ nt ops (i+1) r K (σ.skip o.dst)
        | _=>False
def Ap(ms:List Nat):List Edge→Nat
  | []=>0
  | e::r=>match Region.binds .any e,ms[e.on]? with
    | true,some m=>(2^e.on ||| m) ||| Ap ms r
    | _,_=>Ap ms r
def masks:List Oper→List Nat→List Nat|[],ms=>ms|o::r,ms=>masks r (ms++[Ap ms o.after.toList])
def QB:Operand→List Nat|.tmp t=>[t]|_=>[]
def gdT(ops:Array Oper)(o:Oper):List Nat :=
 match o.guard with
 | some (j,_)=>match(ops[j]?).bind (·.dst)with|some g=>[g]|none=>[]
 | none=>[]
def qE(ops:Array Oper)(o:Oper):List Nat:=o.op.operands.toList.flatMap QB++gdT ops o
def meets(l:List Nat)(d:Option Nat):Bool:=match d with|some t=>l.contains t|none=>false
def zay(d e:Option Nat):Bool:=match d,e with|some t,some u=>Nat.beq t u|_,_=>false
def JP(ops:Array Oper)(a b:Oper):Bool :=
 meets (qE ops b) a.dst||meets (qE ops a) b.dst||zay a.dst b.dst
def Aq(ops:Array Oper)(ms:List Nat):Bool :=
 (List.range ops.size).all λj=>(List.range j).all λi =>
  match ops[i]?,ops[j]?,ms[j]? with
  | some a,some b,some m=>!JP ops a b||m.testBit i
  | _,_,_=>false
def JR(ops:Array Oper):Bool :=
 (List.range ops.size).all λi=>match ops[i]? with
  | some o=>o.after.toList.all λe=>!Region.binds .any e||Nat.blt e.on i
  | none=>true
def Yl(k l:Nat):Bool :=
 match k,l with|0,1=>true|1,0=>true|1,1=>true|2,3=>true|3,2=>true|3,3=>true|5,1=>true|1,5=>true|_,_=>false
def tZ(ms:List Nat)(log:List (Nat×Nat×Nat)):Bool :=
 log.all λx=>log.all λy =>
  !Nat.blt x.1 y.1 || !Nat.beq x.2.1 y.2.1 || !Yl x.2.2 y.2.2||(match ms[y.1]? with|some m=>m.testBit x.1|none=>false)
def rG(x:Cl):Cl:=match x with | .dead _=>.junk|x=>x
def xK:D1→D1|.c x=>.c (rG x)|.agg cs=>.agg (cs.map rG)
def QC:DV→DV|.one d=>.one (xK d)|.tup ds=>.tup (ds.map xK)
def IW:AO→AO|.box ty cs=>.box ty (cs.map rG)|o=>o
def mf:List (Nat×Nat×Nat)→St→Option St
  | [],σ=>some σ
  | (t,L,e)::r,σ=>match lk σ.env t with
    | some (.one (.c (.p .nils)))=>match lk σ.ay L,P.info? e,gu P e with
      | none,some ie,some _=>match Nat.ble 1 ie.size with|true=>mf r {env:=(t,.cl (.vec L))::σ.env,ay:=(L,.vec e ie.size ie.bytes 0 (λ_=>BK P e))::σ.ay,log:=σ.log}|false=>none
      | _,_,_=>none
    | some (.one (.c (.vec _)))=>mf r σ
    | _=>none
def mg:List (Nat×Nat×Nat×Nat)→St→Option St
  | [],σ=>some σ
  | (B,k,L,e)::r,σ=>match lk σ.ay B with
    | some (.box ty cs)=>match cs[k]? with
      | some (.p .nils)=>match lk σ.ay L,P.info? e,gu P e with
        | none,some ie,some _=>match Nat.ble 1 ie.size with|true=>mg r {env:=σ.env,ay:=(B,.box ty (cs.set k (.vec L)))::(L,.vec e ie.size ie.bytes 0 (λ_=>BK P e))::σ.ay,log:=σ.log}|false=>none
        | _,_,_=>none
      | some (.vec _)=>mg r σ
      | _=>none
    | _=>none
def mr:List (Nat×Nat×Nat×Nat×Nat)→St→Option St
  | [],σ=>some σ
  | (B,k,L,te,e)::r,σ=>match lk σ.ay B with
    | some (.box ty cs)=>match cs[k]? with
      | some (.p .nils)=>match lk σ.ay L,P.info? te,gu P te with
        | none,some it,some _=>match P.info? e,gu P e with
          | some ie,some _=>match Nat.beq it.size 1&&Nat.ble 1 ie.size with|true=>mr r {env:=σ.env,ay:=(B,.box ty (cs.set k (.vec L)))::(L,.vv te it.bytes e ie.size ie.bytes 0 (λ_=>0) (λ_ _=>BK P e))::σ.ay,log:=σ.log}|false=>none
          | _,_=>none
        | _,_,_=>none
      | some (.vec _)=>mr r σ
      | _=>none
    | _=>none
def wR{α:Type}(f:α→α)(l:List (Nat×α)):List Nat→List (Nat×α)
  | []=>[]
  | t::r=>match lk l t with|some d=>(t,f d)::wR f l r|none=>wR f l r
def zmo:List Nat→Nat→List Nat
  | [],x=>[x]
  | y::r,x=>match Nat.beq x y with|true=>y::r|false=>y::zmo r x
def zmp(ob:Nat->Option AO)(l:List Nat):List Nat:=l.foldl (λa L=>match ob L with|some o=>(dJ o).foldl zmo a|none=>a) l
def zuU(ob:Nat->Option AO)(env:List (Nat×DV)):List Nat :=
 zmp ob (zmp ob (zmp ob (zmp ob (env.foldl (λa x=>(bQ x.2).foldl zmo a) []))))
def Ym(iW:List Nat)(l:List Nat):Bool:=l.all λL=>iW.contains L
def EZ(ob:Nat→Option AO):List Nat→List (Nat×AO)
  | []=>[]
  | L::r=>match ob L with
    | some (.box _ cells)=>match jg ob cells with|some (l,[])=>(L,.fbox l)::EZ ob r|_=>EZ ob r
    | _=>EZ ob r
def N8(ob:Nat→Option AO):List Nat→List (Nat×AO)
  | []=>[]
  | L::r=>match ob L with|some (.vec _ size _ len get)=>(L,.fvec size len get)::N8 ob r|_=>N8 ob r
def zcV(l:List Nat)(σ:St):St:={env:=σ.env,ay:=(EZ (lk σ.ay) l++N8 (lk σ.ay) l)++σ.ay,log:=σ.log}
def zcW(σ:St)(n:Nat):St:=match Nat.ble 1000000 n with
 | false=>σ
 | true=>match lk σ.ay ((n-1000000)/64)with
  | some (.box ty cs)=>match cs[(n-1000000)%64]? with
   | some (.vec L)=>match lk σ.ay L with|some (.vec _ s _ len get)=>{env:=σ.env,ay:=((n-1000000)/64,.box ty (cs.set ((n-1000000)%64) (.p (.sl len s get))))::([(L,.fvec s len get)]++σ.ay),log:=σ.log}|_=>σ
   | _=>σ
  | _=>σ
def coP:List Nat→St→St|[],σ=>σ|n::r,σ=>coP r (zcW σ n)
def mD:List Nat→St→Option St
  | [],σ=>some σ
  | t::r,σ=>match lk σ.env t with
    | some (.one (.c x))=>match x with
      | .p _=>mD r σ
      | _=>match frz (lk σ.ay) x with|some (v,u)=>mD r {env:=(t,.p v)::σ.env,ay:=u++σ.ay,log:=σ.log}|none=>none
    | _=>none
def E5(e:Nat):Cl→Cl
  | .p .nils=>match oP P e with|some s=>.p (.sl 0 s (λ_=>BK P e))|none=>.p .nils
  | x=>x
def Um(b:Nat)(f:Cl->Cl)(l:List Cl):List Cl:=match l[b]? with|some x=>l.set b (f x)|none=>l
def Yn{α:Type}(k:Nat)(x:α):List (Nat×α)→List (Nat×α)
  | []=>[]
  | (j,y)::r=>match Nat.beq j k with|true=>(j,x)::r|false=>(j,y)::Yn k x r
def nf1(k a b e:Nat)(σ:St):St :=
 match k with
 | 0=>match lk σ.env a with|some (.one (.c x))=>{env:=Yn a (.one (.c (E5 P e x))) σ.env,ay:=σ.ay,log:=σ.log}|some (.one (.agg cs))=>{env:=Yn a (.one (.agg (Um b (E5 P e) cs))) σ.env,ay:=σ.ay,log:=σ.log}|_=>σ
 | _=>match lk σ.ay a with|some (.box ty cs)=>{env:=σ.env,ay:=Yn a (.box ty (Um b (E5 P e) cs)) σ.ay,log:=σ.log}|_=>σ
def IX:List (Nat×Nat×Nat×Nat)→St→St|[],σ=>σ|(k,a,b,e)::r,σ=>IX r (nf1 P k a b e σ)
def xM(k:Keep)(σ:St):Option St :=
  match mf P k.coT σ with
  | none=>none
  | some σ1=>match mg P k.coB σ1 with
    | none=>none
    | some σ2=>match mr P k.coV σ2 with
     | none=>none
     | some σ3 =>
      let env:=wR QC σ3.env k.tmps;let iW:=zuU (lk σ3.ay) env;let ay:=wR IW σ3.ay iW
      match(env.all λx=>Ym iW (bQ x.2))&&(ay.all λx=>Ym iW (dJ x.2))with|true=>some ⟨env,ay,[]⟩|false=>none
def canon(k:Keep)(σ:St):Option St :=
 match mD k.coZ (coP k.coF (zcV k.coF σ))with
 | some s=>match xM P k s with|some s=>some (IX P k.nf s)|none=>none
 | none=>none
def OT(aO:dI)(id:Nat)(ops:Array Oper)(draw:Bool)(K:St->Prop)(σ:St):Prop :=
 match draw with
 | false=>jQ P Γ aO.nt ops 0 ops.toList (λσ'=>match lk aO.reg id with
   | some k=>match canon P k σ' with|some s=>K s|none=>False
   | none=>K σ') {σ with log:=[]}
 | true=>match P.follows .mixedOrders&&JR ops&&Aq ops (masks ops.toList [])with
  | true=>jQ P Γ aO.nt ops 0 ops.toList (λσ'=>match tZ (masks ops.toList []) σ'.log with
   | true=>match lk aO.reg id with
    | some k=>match canon P k σ' with|some s=>K s|none=>False
    | none=>False
   | false=>False) {σ with log:=[]}
  | false=>False
def zcX(aO:dI)(id:Nat)(K:St->Prop)(σ:St):Prop:=match lk aO.reg id with
 | some k=>match canon P k σ with|some s=>K s|none=>False
 | none=>K σ
def oV{α:Type}:List α→Option (List α×α)
  | []=>none
  | o::r=>match oV r with|some (p,l)=>some (o::p,l)|none=>some ([],o)
def zcY(nt:Nat)(m p:Oper):Option (TypeId×Nat×Nat):=match m.op,m.dst,m.guard,p.op,p.guard with
 | .makeInterface ty (.tmp x),some y,none,.panic (.tmp y'),none=>match Nat.beq y y'&&Nat.blt y nt with
  | true=>match P.underlying ty with|some (.struct _)=>some (ty,x,y)|_=>none
  | false=>none
 | _,_,_,_,_=>none
def zcZ(o:Oper)(σ:St):Option (MK×List XA×List DV×List Nat×List Nat):=match o.op with
 | .call {callee:=.value f,args,argTypes:=_}=>match dW σ.env f with
  | .one (.c (.clo g caps))=>match Γ.mt g with
   | some C=>match jP (zcT g args.size caps) (lk σ.ay) (args.toList.map (dW σ.env)++caps.map capD)with|some (xs,ls,ms)=>some (C,xs,args.toList.map (dW σ.env)++caps.map capD,ls,ms)|none=>none
   | none=>none
  | _=>none
 | _=>none
def N9(i:Nat)(dst:Option Nat)(σ:St):aA→Option St|.val fp d u kl=>some (σ.upd i dst fp d u kl)|_=>none
def Yo(aO:dI)(id i:Nat)(o:Oper)(K:Exit->St->Prop)(σ:St):Prop :=
 match o.guard,dA aO.nt o.dst with
 | none,true=>match zcZ Γ o σ with
  | some (C,xs,ds,ls,ms)=>match(C xs).o with
   | some (rs,ys)=>match EX rs with
    | none=>match N9 i o.dst σ (pG ds (lk σ.ay) ls ms rs ys)with|some σ2=>zcX P aO id (K .normal) σ2|none=>False
    | some ch=>match N9 i none σ (pG ds (lk σ.ay) ls ms rs ys)with|some σ2=>K (.panic ch) σ2|none=>False
   | none=>False
  | none=>False
 | _,_=>False
def zuV(ty:TypeId)(x y:Nat)(K:Exit->St->Prop)(σ:St):Prop:=match lk σ.env x with|some (.one (.agg [.p (.int k n)]))=>K (.panic (zmj ty k n)) ⟨(y,.junk)::σ.env,σ.ay,[]⟩|_=>False
def JS(aO:dI)(id:Nat)(ops:Array Oper)(K:Exit->St->Prop)(σ:St):Prop :=
 match oV ops.toList with
 | some (p1,l)=>match oV p1 with
  | some (pre,m)=>match zcY P aO.nt m l with
   | some (ty,x,y)=>jQ P Γ aO.nt ops 0 pre (zuV ty x y K) {σ with log:=[]}
   | none=>jQ P Γ aO.nt ops 0 p1 (Yo P Γ aO id p1.length l K) {σ with log:=[]}
  | none=>False
 | none=>False
def jA:Code→Nat
  | .region id _ _=>id
  | .seq a _=>jA a
  | .block _ b=>jA b
  | .loop b=>jA b
  | .scope b=>jA b
  | .cond _ a b=>match Nat.beq (jA a) 1000000 with|true=>jA b|false=>jA a
  | _=>1000000
def zmq(aO:dI)(r:Nat)(go:St->Prop)(σ:St):Prop :=
 match lk aO.cut r with
 | some k=>match canon P k σ with|some s=>go s|none=>False
 | none=>go σ
def zc0(next:St→Prop)(K:Exit→St→Prop):Exit→St→Prop
  | .normal,σ=>next σ
  | e,σ=>K e σ
def Yp(id:Nat)(K:Exit→St→Prop):Exit→St→Prop
  | .exit i,σ=>match Nat.beq i id with|true=>K .normal σ|false=>K (.exit i) σ
  | e,σ=>K e σ
def zuW(K:Exit→St→Prop):Exit→St→Prop|.goto _,_=>False|e,σ=>K e σ
def zf6(aO:dI)(id:Nat)(X:St→Prop)(K:Exit→St→Prop):Exit→St→Prop
  | .normal,σ=>match lk aO.head id with
    | some k=>match canon P k σ with|some s=>X s|none=>False
    | none=>False
  | e,σ=>K e σ
def wS(σ:St)(c:Operand)(b:Bool):St:=match c with | .tmp t=>σ.setT t (.bool b)|_=>σ
def zc1(k:Keep)(step:(Exit→St→Prop)→St→Prop):Nat→(Exit→St→Prop)→St→Prop
  | 0,_,_=>False
  | n+1,K,σ=>match canon P k σ with
    | some s=>step (λe σ'=>match e with | .normal=>zc1 k step n K σ'|e=>K e σ') s
    | none=>False
def Ir:List Oper→List Nat
  | []=>[]
  | o::r=>match o.dst with|some t=>t::Ir r|none=>Ir r
def GG:Nat:=4294967296
def dP:Code→List Nat|.region _ ops _=>Ir ops.toList|.seq a b=>dP a++dP b|.cond _ a b=>dP a++dP b|.block _ b=>dP b|.loop b=>dP b|.scope b=>dP b|.rangeFunc _ _ a b=>GG::(dP a++dP b)|_=>[]
def Yq(a b:Code):Nat:=match Nat.beq (jA a) 1000000 with|true=>jA b|false=>jA a
def mY(l m:List Nat):Bool:=l.all λt=>!m.contains t
def pI:List Nat→List PA→List (Nat×DV)→Option (List (Nat×DV))|[],[],e=>some e|p::ps,y::ys,e=>pI ps ys ((p,.one (NZ y))::e)|_,_,_=>none
def sG(k:Keep)(np:Bool)(next:St→Prop)(K:Exit→St→Prop):Exit→St→Prop
  | .normal,σ=>match canon P k σ with|some s=>next s|none=>False
  | .ret,σ=>match canon P k σ with|some s=>K .ret s|none=>False
  | .exit id,σ=>match canon P k σ with|some s=>K (.exit id) s|none=>False
  | .panic ch,σ=>match np,canon P k σ with|true,some s=>K (.panic ch) s|_,_=>False
  | _,_=>False
def vc(aO:dI):Code→(Exit→St→Prop)→St→Prop
  | .skip,K,σ=>K .normal σ
  | .region id ops draw,K,σ=>match aO.pan.contains id && !draw with|false=>OT P Γ aO id ops draw (K .normal) σ|true=>JS P Γ aO id ops K σ
  | .seq a b,K,σ=>vc aO a (zc0 (zmq P aO (jA b) (vc aO b K)) K) σ
  | .cond c a b,K,σ=>match dW σ.env c with|.one (.c (.p (.bool t)))=>JM t (vc aO a K (wS σ c true)) (vc aO b K (wS σ c false))|_=>False
  | .block id b,K,σ=>vc aO b (Yp id K) σ
  | .loop b,K,σ=>match lk aO.head (jA b)with
    | some k=>match canon P k σ with|some s=>∀X:St->Prop,(∀s,vc aO b (zf6 P aO (jA b) X K) s->X s)->X s|none=>False
    | none=>match lk aO.unr (jA b)with|some (n,k)=>zc1 P k (vc aO b) n K σ|none=>False
  | .rangeFunc f ps assign body,K,σ=>match lk aO.head (Yq assign body)with
    | some k=>match canon P k σ,mY k.tmps (ps.toList++(dP assign++dP body))&&ps.toList.all (λp=>Nat.blt p aO.nt)with
      | some s,true=>match dW s.env f with
        | .one (.c (.p (.fn gf [] caps)))=>match(Γ.it gf (caps.map .one)).o with
          | some ys=>∀X:List (List PA)->St->Prop,(∀s,K .normal s->X [] s) ->
            (∀y rest s,(match pI ps.toList y s.env with|some env=>vc aO assign (zc0 (vc aO body (sG P k (mY [GG] (dP assign++dP body)) (X rest) K)) λ_ _=>False) ⟨env,s.ay,[]⟩|none=>False)->X (y::rest) s)->X ys s
          | none=>False
        | _=>False
      | _,_=>False
    | none=>False
  | .exit id,K,σ=>K (.exit id) σ
  | .scope b,K,σ=>vc aO b (zuW K) σ
  | .label _,K,σ=>K .normal σ
  | .ret,K,σ=>K .ret σ
  | _,_,_=>False
def kJ(σ:St):List ResultVar→Option (List PA)
  | []=>some []
  | .tmp t::r=>match lk σ.env t with
    | some d=>match zy (lk σ.ay) d,kJ σ r with|some (x,_),some l=>some (x::l)|_,_=>none
    | none=>none
  | .cell t ty::r=>match lk σ.env t,jb P ty,oP P ty with
    | some (.one (.c (.ptr L off))),some g,some n=>match lk σ.ay L with
      | some (.box _ cells)=>match kL g n cells off with
        | some d=>match zy (lk σ.ay) (.one d),kJ σ r with|some (x,_),some l=>some (x::l)|_,_=>none
        | none=>none
      | _=>none
    | _,_,_=>none
def Ar(fn:Func)(K:List PA->Prop)(σ:St):Prop :=
 match kJ P σ fn.results.toList with|some l=>K l|none=>False
def zf7(fn:Func)(K:List PA→Prop):Exit→St→Prop|.ret,σ=>Ar P fn K σ|.normal,σ=>Ar P fn K σ|_,_=>False
def jK:Nat→List PA→List (Nat×DV)|_,[]=>[]|i,x::r=>(i,.one (NZ x))::jK (i+1) r
def vcFun(aO:dI)(f:FuncId)(args:List PA)(K:List PA->Prop):Prop :=
 match P.funcs[f]? with
 | some fn=>match fn.body with
  | some c=>match Nat.beq aO.nt fn.ntmps&&Nat.ble args.length aO.nt with|true=>vc P Γ aO c (zf7 P fn K) ⟨jK 0 args,[],[]⟩|false=>False
  | none=>False
 | none=>False
def OU(fn:Func)(e s b:Nat)(K:List PA->Prop)(σ:St):Prop :=
 match fn.results.toList with
 | [.tmp t]=>match lk σ.env t with
  | some (.one (.c (.vec L)))=>match lk σ.ay L with
   | some (.vec e' s' b' n get)=>match Nat.beq e e'&&(Nat.beq s s'&&Nat.beq b b')with|true=>K [.one (.sl n s get)]|false=>False
   | _=>False
  | _=>False
 | [.tmp t,.tmp u]=>match lk σ.env t with
  | some (.one (.c (.vec L)))=>match lk σ.env u with
   | some (.one (.c (.p x)))=>match lk σ.ay L with
    | some (.vec e' s' b' n get)=>match Nat.beq e e'&&(Nat.beq s s'&&Nat.beq b b')with|true=>K [.one (.sl n s get),.one x]|false=>False
    | _=>False
   | _=>False
  | _=>False
 | _=>False
def zf8(fn:Func)(e s b:Nat)(K:List PA→Prop):Exit→St→Prop|.ret,σ=>OU fn e s b K σ|.normal,σ=>OU fn e s b K σ|_,_=>False
def zaz(aO:dI)(f:FuncId)(args:List PA)(e s b:Nat)(K:List PA->Prop):Prop :=
 match P.funcs[f]? with
 | some fn=>match fn.body with
  | some c=>match Nat.beq aO.nt fn.ntmps&&Nat.ble args.length aO.nt with|true=>vc P Γ aO c (zf8 fn e s b K) ⟨jK 0 args,[],[]⟩|false=>False
  | none=>False
 | none=>False
/-! Iterators: functions that take yield. -/
abbrev YK:=Exit->List (List PA)->Bool->St->Prop
def qF:List DV→Option (List PA)
  | []=>some []
  | .one (.c (.p v))::r=>match qF r with|some l=>some (.one v::l)|none=>none
  | .one (.agg cs)::r=>match jO cs,qF r with|some l,some m=>some (.agg l::m)|_,_=>none
  | _::_=>none
def OV(ob:Nat→Option AO):List Nat→List (Nat×AO)
  | []=>[]
  | L::r=>match ob L with|some (.fbox l)=>(L,.fbox l)::OV ob r|_=>OV ob r
abbrev Un:Nat:=4095
def JU(σ:St):List (Nat×AO):=EZ (lk σ.ay) (σ.ay.map (·.1))++OV (lk σ.ay) (σ.ay.map (·.1))
def hasAll(ks:List Nat)(l:List Nat):Bool:=l.all λL=>ks.contains L
def vI(ks:List Nat)(l:List (Nat×DV)):List Nat→List (Nat×DV)
  | []=>[]
  | t::r=>match lk l t with
    | some d=>match hasAll ks (bQ d)with|true=>(t,d)::vI ks l r|false=>vI ks l r
    | none=>vI ks l r
def yQ(σ:St):St:=⟨vI (Un::(JU σ).map (·.1)) σ.env (σ.env.map (·.1)),(Un,.gone)::JU σ,[]⟩
def zmr(σ:St)(o:Oper):Option (Array Operand×Nat) :=
 match o.op,o.dst with
 | .call {callee:=.value f,args,argTypes:=_},some t=>match dW σ.env f with
  | .one (.c (.vec 4095))=>match lk σ.env 0 with|some (.one (.c (.vec 4095)))=>some (args,t)|_=>none
  | _=>none
 | _,_=>none
def vJ(nt:Nat)(o:Oper)(next:List (List PA)->Bool->St->Prop)(ys:List (List PA))(q:Bool)(σ:St):Prop :=
 match zmr σ o with
 | some (args,t)=>match qF (args.toList.map (dW σ.env)),Nat.blt t nt,q with
  | some y,true,false=>∃rest,ys=y::rest/\next rest false ((yQ σ).setT t (.bool true))/\next rest true ((yQ σ).setT t (.bool false))
  | _,_,_=>False
 | none=>match dA nt o.dst with
  | true=>nC (act P Γ o (dW σ.env) (lk σ.ay)) (λ_ _=>[]) 0 o.dst (next ys q) σ
  | false=>False
def lC(nt:Nat)(ops:Array Oper):List Oper→(List (List PA)→Bool→St→Prop)→List (List PA)→Bool→St→Prop
  | [],K,ys,q,σ=>K ys q σ
  | o::r,K,ys,q,σ=>match o.guard with
    | none=>vJ P Γ nt o (lC nt ops r K) ys q σ
    | some (j,want)=>match dA nt o.dst,(ops[j]?).bind (·.dst)with
      | true,some g=>match lk σ.env g with
        | some (.one (.c (.p (.bool b)))) => JM b
            (match want with|true=>vJ P Γ nt o (lC nt ops r K) ys q (σ.setT g (.bool true))|false=>lC nt ops r K ys q ((σ.setT g (.bool true)).skip o.dst))
            (match want with|true=>lC nt ops r K ys q ((σ.setT g (.bool false)).skip o.dst)|false=>vJ P Γ nt o (lC nt ops r K) ys q (σ.setT g (.bool false)))
        | some (.one (.c .undef))=>lC nt ops r K ys q (σ.skip o.dst)
        | _=>False
      | _,_=>False
def zuX(next:List (List PA)→Bool→St→Prop)(K:YK):YK
  | .normal,ys,q,σ=>next ys q σ
  | e,ys,q,σ=>K e ys q σ
def Yr(id:Nat)(K:YK):YK
  | .exit i,ys,q,σ=>match Nat.beq i id with|true=>K .normal ys q σ|false=>K (.exit i) ys q σ
  | e,ys,q,σ=>K e ys q σ
def zuY(K:YK):YK|.goto _,_,_,_=>False|e,ys,q,σ=>K e ys q σ
def zf9(aO:dI)(id:Nat)(X:List (List PA)→Bool→St→Prop)(K:YK):YK
  | .normal,ys,q,σ=>match lk aO.head id with
    | some k=>match canon P k σ with|some s=>X ys q s|none=>False
    | none=>False
  | e,ys,q,σ=>K e ys q σ
def OW(k:Keep)(step:YK→List (List PA)→Bool→St→Prop):Nat→YK→List (List PA)→Bool→St→Prop
  | 0,_,_,_,_=>False
  | n+1,K,ys,q,σ=>match canon P k σ with
    | some s=>step (λe oN q' σ'=>match e with | .normal=>OW k step n K oN q' σ'|e=>K e oN q' σ') ys q s
    | none=>False
def zuZ(aO:dI)(r:Nat)(go:List (List PA)->Bool->St->Prop)(ys:List (List PA))(q:Bool)(σ:St):Prop :=
 match lk aO.cut r with
 | some k=>match canon P k σ with|some s=>go ys q s|none=>False
 | none=>go ys q σ
def QD(aO:dI):Code→YK→List (List PA)→Bool→St→Prop
  | .skip,K,ys,q,σ=>K .normal ys q σ
  | .region id ops draw,K,ys,q,σ=>match(Ir ops.toList).contains 0,aO.yl.contains id,draw with
    | true,_,_=>False
    | false,true,false=>lC P Γ aO.nt ops ops.toList (λoN q' σ'=>match lk aO.reg id with
      | some k=>match canon P k σ' with|some s=>K .normal oN q' s|none=>False
      | none=>K .normal oN q' {σ' with log:=[]}) ys q {σ with log:=[]}
    | false,true,true=>False
    | false,false,_=>OT P Γ aO id ops draw (K .normal ys q) σ
  | .seq a b,K,ys,q,σ=>QD aO a (zuX (zuZ P aO (jA b) (QD aO b K)) K) ys q σ
  | .cond c a b,K,ys,q,σ=>match dW σ.env c with|.one (.c (.p (.bool t)))=>JM t (QD aO a K ys q (wS σ c true)) (QD aO b K ys q (wS σ c false))|_=>False
  | .block id b,K,ys,q,σ=>QD aO b (Yr id K) ys q σ
  | .loop b,K,ys,q,σ=>match lk aO.head (jA b)with
    | some k=>match canon P k σ with|some s=>∀X:List (List PA)->Bool->St->Prop,(∀ys q s,QD aO b (zf9 P aO (jA b) X K) ys q s->X ys q s)->X ys q s|none=>False
    | none=>match lk aO.unr (jA b)with|some (n,k)=>OW P k (QD aO b) n K ys q σ|none=>False
  | .exit id,K,ys,q,σ=>K (.exit id) ys q σ
  | .scope b,K,ys,q,σ=>QD aO b (zuY K) ys q σ
  | .label _,K,ys,q,σ=>K .normal ys q σ
  | .ret,K,ys,q,σ=>K .ret ys q σ
  | _,_,_,_,_=>False
def zga(ys:List (List PA))(q:Bool):Prop:=match q with|true=>True|false=>ys=[]
def zCp:YK|.ret,ys,q,_=>zga ys q|.normal,ys,q,_=>zga ys q|_,_,_,_=>False
def QE(aO:dI)(f:FuncId)(caps:List PA)(ys:List (List PA)):Prop :=
 match P.funcs[f]? with
 | some fn=>match fn.body with
  | some c=>match Nat.beq aO.nt fn.ntmps&&Nat.ble (caps.length+1) aO.nt&&fn.results.isEmpty with|true=>QD P Γ aO c zCp ys false ⟨(0,.cl (.vec Un))::jK 1 caps,[(Un,.gone)],[]⟩|false=>False
  | none=>False
 | none=>False
end
end Go.Pm
namespace Go.Pm
open Go.RowKit (Below)
theorem lD{α:Type}(l:List α)(off:Nat)(l':List α):(spl l off l').length=l.length:=by
 induction l' generalizing l off with|nil=>rfl|cons x r ih=>simp[spl,ih]
inductive FzO where
  | fz (o:Obj)
  | pin (o:Obj)
def rH(l:List Int):Value:=.agg (l.map λn=>Value.int .i64 n).toArray
def FzO.ok:FzO→Obj→Prop|.fz o,x=>x=o|.pin o,x=>x=o
abbrev Fz:=Nat->Option FzO
def Hw(h:Fz)(w:World):Prop:=∀b x,h b=some x->∃o,w.heap[b]? = some o/\x.ok o
theorem Hw.fz{h:Fz}{w:World}(H:Hw h w){b:Nat}{o:Obj}(hb:h b=some (.fz o)):w.heap[b]? = some o:=by
 obtain⟨o',h1,h2⟩:=H b _ hb;simp only[FzO.ok]at h2;subst h2;exact h1
theorem Hw.lt{h:Fz}{w:World}(H:Hw h w){b:Nat}{x:FzO}(hb:h b=some x):b<w.heap.size:=by
 obtain⟨o',h1,_⟩:=H b _ hb;exact(X5.1 h1).1
theorem Hw.same{h:Fz}{w w':World}(H:Hw h w)(hs:∀b x,h b=some x->w'.heap[b]? = w.heap[b]?):Hw h w':=λb x hb=>by
 obtain⟨o,h1,h2⟩:=H b x hb;exact⟨o,by rw[hs b x hb];exact h1,h2⟩
class aG where
  z:Nat
variable [aG]
abbrev zsg:Nat:=aG.z
abbrev dle(a b:Nat):Prop:=a*zsg<=b*zsg
theorem JV{a b:Nat}(h:a<=b):dle a b:=Qs _ h
structure xE (h : Fz) (B : Nat) (w w' : World) : Prop where
  os:w'.os=w.os
  tape:w'.tape=w.tape
  output:w'.output=w.output
  size:w.heap.size<=w'.heap.size
  drawn:dle w.drawn w'.drawn
  block:∀k,k<B->w'.heap[k]? = w.heap[k]?
structure JW (B : Nat) (w w' : World) : Prop extends Below B w w' where
  drawn:dle w.drawn w'.drawn
structure GrB (w w' : World) (row : Option Nat) : Prop extends w.grownBy w' row where
  drawn:dle w.drawn w'.drawn
theorem JW.refl(B:Nat)(w:World):JW B w w:=⟨Below.refl B w,jy _⟩
theorem xE.of{h:Fz}{B:Nat}{w w':World}(b:JW B w w'):xE h B w w':=⟨b.os,b.tape,b.output,b.size,b.drawn,λk hk=>b.block k hk⟩
theorem xE.refl(h:Fz)(B:Nat)(w:World):xE h B w w:=.of (.refl B w)
theorem xE.trans{h:Fz}{B:Nat}{a b c:World}(x:xE h B a b)(y:xE h B b c):xE h B a c :=
 ⟨y.os.trans x.os,y.tape.trans x.tape,y.output.trans x.output,BH x.size y.size,BH x.drawn y.drawn,λi hi=>(y.block i hi).trans (x.block i hi)⟩
theorem xE.drew{h:Fz}{B:Nat}{a w:World}(x:xE h B a w):xE h B a w.drew:=⟨x.os,x.tape,x.output,x.size,BH x.drawn (JV (Nat.le_succ _)),x.block⟩
def eF(kf:KF)(c:List Int):Value:=match kf with|.ints=>rH c|.one=>.int .i64 (c.headD 0)
def cellV:Option IntKind→Int→Value|some k,x=>.int k x|none,x=>.bool (x != 0)
def qG(o:Option (List Int)):Nat→List (Option IntKind)→List Value|_,[]=>[]|i,k::ks=>cellV k (sD o i)::qG o (i+1) ks
def lI(xC:Bool)(ks:List (Option IntKind))(o:Option (List Int)):Value:=match xC with|true=>.agg (qG o 0 ks).toArray|false=>(qG o 0 ks).headD undef
def nD(c:List Int):List (List Int×List Int)→Option (List Int)
  | []=>none
  | (k,v)::r=>if k=c then some v else nD c r
structure MoE (q : MQ) (n : Nat) (F : List Int → Option (List Int)) (es : Array MapEntry) (clock : Nat) (en : List (List Int × List Int)) : Prop where
  one:q.1=.one->q.2.1=1
  vone:q.2.2.1=false->q.2.2.2.length=1
  ents:es.toList.map (λe=>(e.key,e.val))=en.map (λx=>(eF q.1 x.1,lI q.2.2.1 q.2.2.2 (some x.2)))
  len:∀x∈en,x.1.length=q.2.1/\x.2.length=q.2.2.2.length
  nodup:(en.map (·.1)).Nodup
  find:∀c,c.length=q.2.1->F c=nD c en
  size:n=en.length
  born:∀e∈es.toList,e.born<clock
  bornN:(es.toList.map (·.born)).Nodup
def moE(q:MQ)(n:Nat)(F:List Int->Option (List Int))(es:Array MapEntry)(clock:Nat):Prop:=∃en,MoE q n F es clock en
inductive Rep(h:Fz):PV→Value→Prop
  | bool (b:Bool):Rep h (.bool b) (.bool b)
  | int (k:IntKind) (n:Int):Rep h (.int k n) (.int k n)
  | nilp:Rep h .nilp (.pointer none)
  | nilf:Rep h .nilf .nilFunc
  | nilm:Rep h .nilm (.map none)
  | nils:Rep h .nils (.slice none 0 0)
  | fp (cells:List PV) (off b o:Nat) (C:Array Value) (ty:TypeId) (fr:Nat×Nat) (vs:Nat→Value) (hb:h b=some (.fz (.cells C ty fr)))
      (hc:∀j x,cells[j]? = some x->C[o+j]? = some (vs j)) (hr:∀j x,cells[j]? = some x->Rep h x (vs j)) :
      Rep h (.fp cells off) (.pointer (some ⟨b,o+off,none⟩))
  | sl0 (size:Nat) (get:Nat->List PV) (hu:tX get):Rep h (.sl 0 size get) (.slice none 0 0)
  | sle (size:Nat) (get:Nat->List PV) (a:Addr) (cap:Nat) (hu:tX get):Rep h (.sl 0 size get) (.slice (some a) 0 cap)
  | sl (len size:Nat) (get:Nat→List PV) (hu:tX get) (b o cap:Nat) (C:Array Value) (ty:TypeId) (fr:Nat×Nat) (vs:Nat→Nat→Value) (hb:h b=some (.fz (.cells C ty fr)))
      (jV:len<=cap) (hlen:∀i,i<len->(get i).length=size)
      (hc:∀i j x,i<len->(get i)[j]? = some x->C[o+i*size+j]? = some (vs i j))
      (hr:∀i j x,i<len->(get i)[j]? = some x->Rep h x (vs i j)) :
      Rep h (.sl len size get) (.slice (some ⟨b,o,none⟩) len cap)
  | fn (f:FuncId) (first caps:List PV) (fv cv:List Value) (h1:first.length=fv.length) (h2:caps.length=cv.length)
      (hf:∀(j:Nat)(x:PV)(v:Value),first[j]? = some x->fv[j]? = some v->Rep h x v) (hc:∀(j:Nat)(x:PV)(v:Value),caps[j]? = some x->cv[j]? = some v->Rep h x v) :
      Rep h (.fn f first caps) (.func (.func f) fv.toArray cv.toArray)
  | fna (f:FuncId) (cells:List PV) (vs:List Value) (h1:cells.length=vs.length)
      (hc:∀(j:Nat)(x:PV)(v:Value),cells[j]? = some x->vs[j]? = some v->Rep h x v):Rep h (.fna f cells) (.func (.func f) #[.agg vs.toArray] #[])
def jX(h h':Fz):Prop:=∀b o,h b=some o->h' b=some o
theorem Rep.mono{h h':Fz}(hl:jX h h'){p:PV}{v:Value}(r:Rep h p v):Rep h' p v:=by
 induction r with
 | bool b=>exact .bool b
 | int k n=>exact .int k n
 | nilp=>exact .nilp
 | nilf=>exact .nilf
 | nilm=>exact .nilm
 | nils=>exact .nils
 | fp cells off b o C ty fr vs hb hc hr ih=>exact .fp cells off b o C ty fr vs (hl _ _ hb) hc ih
 | sl0 size get hu=>exact .sl0 size get hu
 | sle size get a cap hu=>exact .sle size get a cap hu
 | sl len size get hu b o cap C ty fr vs hb jV hlen hc hr ih=>exact .sl len size get hu b o cap C ty fr vs (hl _ _ hb) jV hlen hc ih
 | fn f first caps fv cv h1 h2 hf hc ih1 ih2=>exact .fn f first caps fv cv h1 h2 ih1 ih2
 | fna f cells vs h1 hc ih=>exact .fna f cells vs h1 ih
theorem Rep.mono'{h h':Fz}(hl:∀b o,h b=some o->(∃C ty fr,o=.fz (.cells C ty fr))->h' b=some o){p:PV}{v:Value}(r:Rep h p v):Rep h' p v:=by
 induction r with
 | bool b=>exact .bool b
 | int k n=>exact .int k n
 | nilp=>exact .nilp
 | nilf=>exact .nilf
 | nilm=>exact .nilm
 | nils=>exact .nils
 | fp cells off b o C ty fr vs hb hc hr ih=>exact .fp cells off b o C ty fr vs (hl _ _ hb ⟨_,_,_,rfl⟩) hc ih
 | sl0 size get hu=>exact .sl0 size get hu
 | sle size get a cap hu=>exact .sle size get a cap hu
 | sl len size get hu b o cap C ty fr vs hb jV hlen hc hr ih=>exact .sl len size get hu b o cap C ty fr vs (hl _ _ hb ⟨_,_,_,rfl⟩) jV hlen hc ih
 | fn f first caps fv cv h1 h2 hf hc ih1 ih2=>exact .fn f first caps fv cv h1 h2 ih1 ih2
 | fna f cells vs h1 hc ih=>exact .fna f cells vs h1 ih
theorem Rep.un{h:Fz}{p:PV}{v:Value}(r:Rep h p v):Sm p p:=by
 induction r with|bool b=>exact .bool _ _|int k n=>exact .int _ _ _|sl0 size get hu=>exact tX.sl hu _ _ _|sle size get a cap hu=>exact tX.sl hu _ _ _|sl len size get hu=>exact tX.sl hu _ _ _|fp cells off b o C ty fr vs hb hc hr ih=>exact .fp _ _ _ rfl λk x y hx hy=>by rw[hx]at hy;cases hy;exact ih k x hx|_=>exact .atom _ rfl
theorem xN{h:Fz}:∀{l:List PV}{vs:List Value},RL (Rep h) l vs→RS l l|[],[],_=>trivial|_::_,_::_,r=>⟨r.1.un,xN r.2⟩
theorem Rep.up{h:Fz}{p q:PV}(e:oQ p q):∀{v:Value},Rep h p v->Rep h q v:=by
 induction e with
 | rfl p=>exact λr=>r
 | nil s g hu=>intro v r;cases r;exact .sl0 s g hu
 | sl n s g g' hu hl he ih =>
  intro v r;cases r with
  | sl0=>exact .sl0 _ _ hu
  | sle=>exact .sle _ _ _ _ hu
  | sl _ _ _ _ b o cap C ty fr vs hb jV hlen hc hr =>
   refine .sl n s g' hu b o cap C ty fr vs hb jV (λi hi=>(hl i hi).symm.trans (hlen i hi)) (λi j x hi hx=>?_) λi j x hi hx=>?_;obtain⟨y,hy⟩:=nV (hl i hi).symm hx;exact hc i j y hi hy;obtain⟨y,hy⟩:=nV (hl i hi).symm hx;exact ih i j y x hi hy hx (hr i j y hi hy)
 | fp l l' off hl he ih =>
  intro v r;cases r with
  | fp _ _ b o C ty fr vs hb hc hr =>
   refine .fp l' off b o C ty fr vs hb (λj x hx=>?_) λj x hx=>?_;obtain⟨y,hy⟩:=nV hl.symm hx;exact hc j y hy;obtain⟨y,hy⟩:=nV hl.symm hx;exact ih j y x hy hx (hr j y hy)
 | fn f a a' l l' ha _ hl _ ih0 ih =>
  intro v r;cases r with
  | fn _ _ _ fv cv h1 h2 hf hc =>
   refine .fn f a' l' fv cv (ha.symm.trans h1) (hl.symm.trans h2) (λj x v hx hv=>?_) λj x v hx hv=>?_;obtain⟨y,hy⟩:=nV ha.symm hx;exact ih0 j y x hy hx (hf j y v hy hv);obtain⟨y,hy⟩:=nV hl.symm hx;exact ih j y x hy hx (hc j y v hy hv)
theorem Au{h:Fz}{l m:List PV}(e:RL oQ l m){vs:List Value}(r:RL (Rep h) l vs):RL (Rep h) m vs:=by
 induction l generalizing m vs with
 | nil=>cases m with|nil=>exact r|cons=>exact e.elim
 | cons x l ih=>cases m with
  | nil=>exact e.elim
  | cons y m=>cases vs with|nil=>exact r.elim|cons v vs=>exact⟨r.1.up e.1,ih e.2 r.2⟩
theorem zc2{v:Value}{p:PV}(h:vG v=some p):Sm p p:=by
 unfold vG at h;split at h<;>cases h<;>first|exact .atom _ rfl|exact .bool _ _|exact .int _ _ _
theorem OX:∀{l:List Value}{z:List Cl}{m:List PV},jf l=some z→jO z=some m→RS m m
  | [],z,m,h,h'=>by cases h;cases h';trivial
  | v::r,z,m,h,h'=>by
    simp only[jf]at h;split at h;rename_i x l hx hl;cases h;simp only[jO]at h';split at h';rename_i k hk;cases h';exact⟨zc2 hx,OX hl hk⟩;cases h';cases h
theorem IY{P:Program}{t:TypeId}{z:List Cl}{m:List PV}(h:gu P t=some z)(h':jO z=some m):RS m m:=by
 unfold gu at h;split at h;split at h;split at h;rename_i hl;split at h;cases h;exact OX hl h';cases h;cases h;cases h;cases h
theorem OY{P:Program}{h:Fz}{t k:Nat}{l:List PV}{vs:List Value}(r:RL (Rep h) l vs):RL (Rep h) (zaw P t k l) vs:=by
 unfold zaw;split;rename_i hk;split;rename_i s _ _ hz;split;rename_i z' hz';obtain⟨v,hv,hr⟩:=r.get k _ hk;have hvn:v=.slice none 0 0:=by cases hr;rfl
 subst hvn;have:=r.set k (a:=.sl 0 s (λ_=>z')) (b:=Value.slice none 0 0) (Rep.sl0 _ _ (JL (IY hz hz')));have e:vs.set k (.slice none 0 0)=vs:=by
  obtain⟨jv,hv⟩:=ER.1 hv;rw[<- hv,jqK]
 rwa[e]at this;exact r;exact r;exact r
theorem OZ{P:Program}{h:Fz}:∀(fs:List Field){l:List PV}{vs:List Value},RL (Rep h) l vs→RL (Rep h) (zf1 P fs l) vs|[],_,_,r=>r|_::fs,_,_,r=>OZ fs (OY r)
theorem uf{P:Program}{h:Fz}{e:TypeId}{l:List PV}{vs:List Value}(r:RL (Rep h) l vs):RL (Rep h) (zB P e l) vs:=by
 unfold zB;split;exact OZ _ r;exact OY r
theorem Rep.one{h:Fz}{p:PV}{v:Value}(r:Rep h p v):v.oneCell'=true:=by
 cases r<;>first|rfl|(rename_i r;cases r<;>rfl)
structure Gh where
  h:Fz
  bk:Nat->Nat
  sv:Nat->Value
  iv:Nat->Nat->Value
def Iu(g:Gh):rZ→Value→Prop|.v p,x=>Rep g.h p x|.b L,x=>x=.pointer (some ⟨g.bk L,0,none⟩)
def oq:Value→Nat|.map (some b)=>b|_=>0
def iV(g:Gh):Cl→Value→Prop|.p v,x=>Rep g.h v x|.ptr L off,x=>x=.pointer (some ⟨g.bk L,off,none⟩)|.vptr L s i k,x=>∃b,(g.sv L).ownBlock=some b/\x=.pointer (some ⟨b,i*s+k,none⟩)|.vec L,x=>x=g.sv L/\x.oneCell'=true|.mo L,x=>x=.map (some (oq (g.sv L)))|.clo f caps,x=>∃cv:List Value,x=.func (.func f) #[] cv.toArray/\RL (Iu g) caps cv|.undef,x=>x=undef|.junk,_=>True|.dead _,_=>True
theorem qw{g g':Gh}(hl:∀p x,Rep g.h p x→Rep g'.h p x):∀{caps:List rZ}{vs:List Value},(∀L∈lq caps,g'.bk L=g.bk L)→RL (Iu g) caps vs→RL (Iu g') caps vs|[],[],_,_=>trivial|[],_::_,_,h=>h.elim|_::_,[],_,h=>h.elim|.v p::_,_::_,hb,h=>⟨hl _ _ h.1,qw hl (λL hL=>hb L hL) h.2⟩|.b M::_,_::_,hb,h=>⟨by have:=h.1;simp only[Iu]at this ⊢;rw[hb M (by simp[lq])];exact this,qw hl (λL hL=>hb L (by simp[lq,hL])) h.2⟩
theorem zaB{g:Gh}{c:Cl}{x:Value}(h:iV g c x)(ho:BI c=true):x.oneCell'=true:=by
 cases c with
 | p v=>exact Rep.one h
 | ptr L off=>subst h;rfl
 | vptr L s i k=>obtain⟨b,_,rfl⟩:=h;rfl
 | vec L=>exact h.2
 | mo L=>subst h;rfl
 | clo f caps=>obtain⟨cv,rfl,_⟩:=h;rfl
 | undef=>cases ho
 | junk=>cases ho
 | dead L=>cases ho
def zS(g:Gh):D1→Value→Prop|.c x,v=>iV g x v|.agg cs,v=>∃vs:List Value,v=.agg vs.toArray/\RL (iV g) cs vs
def qH(g:Gh):DV→Value→Prop|.one d,v=>zS g d v|.tup ds,v=>∃vs:List Value,v=.tuple vs.toArray/\RL (zS g) ds vs
def BP(P:Program)(g:Gh)(w:World)(B L e s b n:Nat)(get:Nat->List PV):Prop :=
 (tX get/\0<s)/\(∃i z,P.info? e=some i/\i.size=s/\i.bytes=b/\i.zero=some z/\z.cells.size=s) /\
 ∃xs:List Value,w.ownsRow B e s (g.sv L) n xs/\(∀i,i<n->RL (Rep g.h) (get i) ((xs.drop (i*s)).take s))
def Unv(get:Nat->Nat->List PV):Prop:=∀i j k l,RS (get i j) (get k l)
def vvR(P:Program)(g:Gh)(w:World)(B L te bb e s b n:Nat)(ln:Nat->Nat)(get:Nat->Nat->List PV):Prop :=
 (Unv get/\0<s)/\(∃i z,P.info? te=some i/\i.size=1/\i.bytes=bb/\i.zero=some z/\z.cells.size=1) /\
 (∃i z,P.info? e=some i/\i.size=s/\i.bytes=b/\i.zero=some z/\z.cells.size=s) /\
 w.ownsRow B te 1 (g.sv L) n ((List.range n).map (g.iv L)) /\
 (∀i,i<n->(g.iv L i).oneCell'=true/\(ln i=0->g.iv L i=.slice none 0 0)/\∃xs:List Value,w.ownsRow B e s (g.iv L i) (ln i) xs/\∀j,j<ln i->RL (Rep g.h) (get i j) ((xs.drop (j*s)).take s)) /\
 ∀i k,i<n->(g.iv L i).ownBlock=some k->(g.sv L).ownBlock≠some k/\∀j,j<n->(g.iv L j).ownBlock=some k->i=j
def vtR(P:Program)(g:Gh)(w:World)(B L te bb e s b n:Nat)(ln:Nat->Nat)(get:Nat->Nat->List PV)(o:Nat):Prop :=
 (Unv get/\0<s)/\(∃i z,P.info? te=some i/\i.size=1/\i.bytes=bb/\i.zero=some z/\z.cells.size=1) /\
 (∃i z,P.info? e=some i/\i.size=s/\i.bytes=b/\i.zero=some z/\z.cells.size=s) /\
 w.ownsRow B te 1 (g.sv L) n ((List.range n).map (g.iv L))/\(g.iv L o).oneCell'=true/\(∀k,g.iv L o ≠ .map (some k)) /\
 (∀i,i<n->i≠o->(g.iv L i).oneCell'=true/\(ln i=0->g.iv L i=.slice none 0 0)/\∃xs:List Value,w.ownsRow B e s (g.iv L i) (ln i) xs/\∀j,j<ln i->RL (Rep g.h) (get i j) ((xs.drop (j*s)).take s)) /\
 ∀i k,i<n->i≠o->(g.iv L i).ownBlock=some k->(g.sv L).ownBlock≠some k/\∀j,j<n->j≠o->(g.iv L j).ownBlock=some k->i=j
def zms(v:Value):Prop:=∀a n c,v=.slice (some a) n c->a.off=0
def moR(P:Program)(kt vt:Nat)(q:MQ)(n:Nat)(F:List Int->Option (List Int))(es:Array MapEntry)(clock:Nat):Prop :=
 JD P kt vt=some q/\moE q n F es clock
def NS(P:Program)(g:Gh)(w:World)(B L:Nat):AO→Prop|.box ty cs=>∃C:Array Value,w.heap[g.bk L]? = some (.cells C ty (0,0))/\RL (iV g) cs C.toList|.fbox cs=>∃(C:Array Value)(ty:TypeId)(fr:Nat×Nat),g.h (g.bk L)=some (.fz (.cells C ty fr))/\RL (Rep g.h) cs C.toList|.vec e s b n get=>BP P g w B L e s b n get|.fvec s n get=>Rep g.h (.sl n s get) (g.sv L)/\zms (g.sv L)|.vv te bb e s b n ln get=>vvR P g w B L te bb e s b n ln get|.vt te bb e s b n ln get o=>vtR P g w B L te bb e s b n ln get o|.mo kt vt q n F=>∃(es:Array MapEntry)(clock:Nat),w.heap[oq (g.sv L)]? = some (.map es clock)/\moR P kt vt q n F es clock|.gone=>True
def gy(g:Gh)(L:Nat)(o:AO)(b:Nat):Prop :=
 match o with|.box _ _=>g.bk L=b|.mo _ _ _ _ _=>oq (g.sv L)=b|.vec _ _ _ _ _=>(g.sv L).ownBlock=some b|.vv _ _ _ _ _ n _ _=>(g.sv L).ownBlock=some b\/∃i,i<n/\(g.iv L i).ownBlock=some b|.vt _ _ _ _ _ n _ _ o=>(g.sv L).ownBlock=some b\/∃i,i<n/\i≠o/\(g.iv L i).ownBlock=some b|_=>False
def GH(P:Program)(d:Deferred):Prop:=∃(fv:Fn)(cap:Array Value)(f:FuncId)(args:Array Value),d.target=.fn fv cap/\(∀w,(invoke d.target d.args).run P w=.ok (.enter f args) w) /\
 ∀(n:Nat)(w:World),CallsDIn {fn:=λ_=>True,depth:=none,alive:=false,round:=none} n P f args .returning w λe u w'=>(∃v,e=.returned v)/\u=.returning/\w'=w
def deD:Nat ⊕ Deferred→Deferred|.inl D=>{target:=.collected D,args:=#[]}|.inr d=>d
def lefts:List (Nat ⊕ Deferred)→List Nat|[]=>[]|.inl D::r=>D::lefts r|.inr _::r=>lefts r
theorem ug{D:Nat}:∀{es:List (Nat ⊕ Deferred)},Sum.inl D∈es→D∈lefts es
  | .inl E::r,h=>by
    rcases jW.1 h with e|h
    cases e;exact jM;exact jB _ (ug h)
  | .inr _::r,h=>by
    rcases jW.1 h with e|h
    cases e;exact ug (es:=r) h
theorem JX{D:Nat}:∀{es:List (Nat ⊕ Deferred)},D∈lefts es→Sum.inl D∈es
  | .inl E::r,h=>by
    rcases jW.1 h with rfl|h
    exact jM;exact jB _ (JX h)
  | .inr _::r,h=>jB _ (JX (es:=r) h)
def Marks(P:Program)(B:Nat)(h:Fz)(ds:List Deferred):Prop :=
 ∃es:List (Nat ⊕ Deferred),(lefts es).Nodup/\ds=es.map deD/\(∀D,Sum.inl D∈es->B<=D/\h D=some (.fz (.deferred (some []))))/\∀d,Sum.inr d∈es->GH P d
theorem Marks.mono{P:Program}{B:Nat}{h h':Fz}{ds:List Deferred}(m:Marks P B h ds)(hl:jX h h'):Marks P B h' ds:=by
 obtain⟨es,h1,h2,h3,h4⟩:=m;exact⟨es,h1,h2,λD hD=>⟨(h3 D hD).1,hl _ _ (h3 D hD).2⟩,h4⟩
theorem Marks.nil{P:Program}(B:Nat)(h:Fz):Marks P B h []:=⟨[],qjC,rfl,λ_ hD=>by simp at hD,λ_ hD=>by simp at hD⟩
structure bK (P : Program) (nt B : Nat) (w0 : World) (h0 : Fz) (g : Gh) (σ : St) (a : Act) (w : World) : Prop where
  dfr:Marks P B g.h a.defers
  size:nt<=a.tmps.size
  env:∀t d,lk σ.env t=some d->qH g d (a.tmps.getD t undef)
  obj:∀L o,lk σ.ay L=some o->NS P g w B L o
  own:∀L o b,lk σ.ay L=some o->gy g L o b->B<=b/\g.h b=none
  sep:∀L o b L' o',lk σ.ay L=some o->lk σ.ay L'=some o'->gy g L o b->gy g L' o' b->L=L'
  hw:Hw g.h w
  le0:jX h0 g.h
  hn:∀b o,g.h b=some o->h0 b=some o\/B<=b
  below:xE h0 B w0 w
  bs:B<=w.heap.size
  clE:∀t d,lk σ.env t=some d->∀L∈bQ d,∃o,lk σ.ay L=some o
  clO:∀L o,lk σ.ay L=some o->∀M∈dJ o,∃o',lk σ.ay M=some o'
def pJ(h:Fz):PA→Value→Prop|.one v,x=>Rep h v x|.agg cs,x=>∃vs:List Value,x=.agg vs.toArray/\RL (Rep h) cs vs
def pU(h:Fz):List PA→Value→Prop|[r],v=>pJ h r v|rs,v=>∃vs:List Value,v=.tuple vs.toArray/\RL (pJ h) rs vs
def df (P : Program) (f : FuncId) : Prop := ∃ fn, P.funcs[f]? = some fn ∧ fn.body.isSome = true ∧ (fn.name == "runtime.NumGoroutine") = false
def Ok(P:Program)(f:FuncId)(C:List PA->ae (List PA)):Prop :=
 ∀(args rs:List PA),(C args).o=some rs->∀(w:World)(h:Fz)(vs:List Value),RL (pJ h) args vs->Hw h w ->
  df P f/\Calls P f vs.toArray w λ e w'=>∃ (h':Fz) (v:Value),e=.returned v/\pU h' rs v/\xE h w.heap.size w w' /\
   jX h h'/\Hw h' w'/\∀b o,h' b=some o->h b=some o\/w.heap.size<=b
def BQ(h:Fz)(w:World)(base e s:Nat)(v:Value)(n:Nat)(get:Nat->List PV):Prop :=
 ∃xs:List Value,w.ownsRow base e s v n xs/\∀i,i<n->RL (Rep h) (get i) ((xs.drop (i*s)).take s)
structure zgb (h : Fz) (K : List Nat) (w w' : World) : Prop where
  os:w'.os=w.os
  tape:w'.tape=w.tape
  output:w'.output=w.output
  size:w.heap.size<=w'.heap.size
  drawn:dle w.drawn w'.drawn
  block:∀k,k<w.heap.size->k∉K->w'.heap[k]? = w.heap[k]?
def Uo(v:Value)(xs:List Value):List PV→Value|[]=>v|_=>.tuple (v::xs).toArray
def jh(P:Program)(f:FuncId):ET→Prop
  | .none=>True
  | .sort e s b=>∀(w:World)(h:Fz)(base:Nat)(v:Value)(n:Nat)(get:Nat->List PV)(gf:FuncId)(caps:List PV)(cv:List Value)(ag:Bool)(C:List PA->ae (List PA)),@Ok ⟨1⟩ P gf C->RL (Rep h) caps cv->jb P e=some ag ->
      (∃i,P.info? e=some i/\i.size=s)->0<s->BQ h w base e s v n get->v.oneCell'=true->Hw h w->(∀k,v.ownBlock=some k->h k=none)->base<=w.heap.size ->
      zuN n (λi j=>(JG C caps ag get i j).isSome) (nH C caps ag get) ->
      df P f/\Calls P f #[v,.func (.func gf) #[] cv.toArray] w λr w'=>r=.returned (.tuple #[])/\BQ h w' base e s v n (JH n (nH C caps ag get) get)/\GrB w w' v.ownBlock
  | .clone e s b=>∀(w:World)(h:Fz)(v:Value)(n:Nat)(get:Nat->List PV),Rep h (.sl n s get) v->Hw h w->n*b<=140737488355328->n<=9223372036854775807 ->
      df P f/\Calls P f #[v] w λ r w'=>∃ (h':Fz) (v':Value),r=.returned v'/\v'.oneCell'=true/\BQ h' w' w.heap.size e s v' n get/\(∀ k,v'.ownBlock=some k->h' k=none) /\
        xE h w.heap.size w w'/\jX h h'/\Hw h' w'/\∀b o,h' b=some o->h b=some o\/w.heap.size<=b
  | .mkv e s b F=>∀(w:World)(h:Fz)(az:List PA)(vs:List Value)(n:Nat)(get:Nat->List PV)(rs:List PV),(F az).o=some (n,get,rs)->RL (pJ h) az vs->Hw h w ->
      df P f/\Calls P f vs.toArray w λ r w'=>∃ (h':Fz) (v':Value) (xs:List Value),r=.returned (Uo v' xs rs)/\RL (Rep h') rs xs/\v'.oneCell'=true/\tX get /\
        BQ h' w' w.heap.size e s v' n get/\(∀k,v'.ownBlock=some k->h' k=none)/\xE h w.heap.size w w'/\jX h h'/\Hw h' w'/\∀b o,h' b=some o->h b=some o\/w.heap.size<=b
  | .grow e s b F=>∀(w:World)(h:Fz)(base:Nat)(az:List PA)(vs:List Value)(v:Value)(n:Nat)(get:Nat->List PV)(m:Nat)(get':Nat->List PV),(F az n get).o=some (m,get')->RL (pJ h) az vs ->
      v.oneCell'=true->(tX get/\0<s)->(∃i z,P.info? e=some i/\i.size=s/\i.bytes=b/\i.zero=some z/\z.cells.size=s)->BQ h w base e s v n get->(∀k,v.ownBlock=some k->base<=k/\h k=none)->Hw h w->base<=w.heap.size ->
      df P f/\Calls P f (vs ++ [v]).toArray w λ r w'=>∃ (h':Fz) (v':Value),r=.returned v'/\v'.oneCell'=true/\tX get'/\BQ h' w' base e s v' m get' /\
        (∀k,v'.ownBlock=some k->(k∈v.ownBlock.toList\/w.heap.size<=k)/\h' k=none)/\jX h h'/\Hw h' w'/\(∀b o,h' b=some o->h b=some o\/w.heap.size<=b\/b∈v.ownBlock.toList)/\zgb h v.ownBlock.toList w w'
def JSt(J:List (List PA)->Fz->World->Prop):Prop :=
 ∀ys h W h' W',J ys h W->jX h h'->Hw h' W'->(∀b o,h' b=some o->h b=some o\/W.heap.size<=b)->xE h W.heap.size W W'->J ys h' W'
def xO(P:Program)(f:FuncId)(C:List PA->ae (List (List PA))):Prop :=
 ∀(caps:List PA)(ys:List (List PA)),(C caps).o=some ys->∀(l:Nat)(J Jx:List (List PA)->Fz->World->Prop)(Rp:Ending->World->Prop)(w:World)(h:Fz)(vs:List Value),JSt J->JSt Jx ->
  (∀y rest h W us,J (y::rest) h W->RL (pJ h) y us->Hw h W->∀n,∃fn tmps assign body,(Instr.yield l us.toArray).run P W=.ok (.round l fn tmps assign body) W /\
   RoundIn Fence.wide n P l fn tmps assign body W λe W'=>(∃h',jX h h'/\Hw h' W'/\((e=.returned (.bool true)/\J rest h' W')\/(e=.returned (.bool false)/\Jx rest h' W')))\/((∃ch,e=.panicked ch)/\Rp e W')) ->
  J ys h w->RL (pJ h) caps vs->Hw h w ->
  df P f/\Calls P f (.func (.yield l) #[] #[]::vs).toArray w λe W'=>(∃v h',e=.returned v/\jX h h'/\Hw h' W'/\(J [] h' W'\/∃rest,Jx rest h' W'))\/((∃ch,e=.panicked ch)/\Rp e W')
class dh where
  f:FuncId
  np:Nat
  bs:List Nat
def xq(b:Nat):Value:=.pointer (some ⟨b,0,none⟩)
def zKM [dh]:Value:=.func (.func (dh.f)) #[] ((dh.bs).map xq).toArray
def xcR [dh](P:Program)(h:Fz)(w:World)(B:Nat):XC→Value→Prop|.p v,x=>Rep h v x|.vec e s b n get,x=>x.oneCell'=true/\(tX get/\0<s)/\(∃i z,P.info? e=some i/\i.size=s/\i.bytes=b/\i.zero=some z/\z.cells.size=s)/\BQ h w B e s x n get|.mo kt vt q n F,x=>∃(b:Nat)(es:Array MapEntry)(clock:Nat),x=.map (some b)/\w.heap[b]? = some (.map es clock)/\moR P kt vt q n F es clock|.slf f np n,x=>f=dh.f/\np=dh.np/\n=(dh.bs).length/\x=zKM
def xcK:XC→Value→List Nat|.p _,_=>[]|.vec _ _ _ _ _,x=>x.ownBlock.toList|.mo _ _ _ _ _,x=>[oq x]|.slf _ _ _,_=>[]
def uh:List XC→List Value→List Nat|c::cs,v::vs=>xcK c v++uh cs vs|_,_=>[]
def yR [dh](P:Program)(h:Fz)(w:World)(B:Nat):XA→Value→Prop|.d a,v=>pJ h a v|.box ty cs,v=>∃k C,v=.pointer (some ⟨k,0,none⟩)/\w.heap[k]? = some (.cells C ty (0,0))/\RL (xcR P h w B) cs C.toList
def Ur(w:World):XA→Value→List Nat
  | .box _ cs,.pointer (some a)=>a.block::match w.heap[a.block]? with|some (.cells C _ _)=>uh cs C.toList|_=>[]
  | _,_=>[]
def mW(w:World):List XA→List Value→List Nat|x::xs,v::vs=>Ur w x v++mW w xs vs|_,_=>[]
def Oa(h:Fz)(rs:List PA)(e:Ending):Prop:=match EX rs with|none=>∃v,e=.returned v/\pU h rs v|some ch=>e=.panicked ch
def iM(P:Program)(f:FuncId)(C:MK):Prop :=
 ∀ [dh] (xs ys:List XA) (rs:List PA),(C xs).o=some (rs,ys)->∀(w:World)(h:Fz)(base:Nat)(vs:List Value),RL (yR P h w base) xs vs->(∀k b,(dh.bs)[k]? = some b->vs[dh.np+k]? = some (xq b))->(mW w xs vs).Nodup ->
  (∀b∈mW w xs vs,base<=b/\h b=none)->Hw h w->base<=w.heap.size ->
  df P f/\Calls P f vs.toArray w λ e w'=>∃ (h':Fz),Oa h' rs e/\RL (yR P h' w' base) ys vs/\(mW w' ys vs).Nodup /\
   (∀b∈mW w' ys vs,(b∈mW w xs vs\/w.heap.size<=b)/\h' b=none)/\jX h h'/\Hw h' w'/\(∀b o,h' b=some o->h b=some o\/w.heap.size<=b\/b∈mW w xs vs)/\zgb h (mW w xs vs) w w'
structure jk (P : Program) (Γ : bM) : Prop where
  mt:∀f C,Γ.mt f=some C->iM P f C
  fn:∀f,Ok P f (Γ.fn f)
  own:∀f,jh P f (Γ.own f)
  it:∀f,xO P f (Γ.it f)
  cmp:∀f,@Ok ⟨1⟩ P f (Γ.cfn f)
theorem aS{α:Type}{k n:Nat}{a:α}{r:List (Nat×α)}:lk ((k,a)::r) n=if k=n then some a else lk r n:=by
 simp only[lk];cases h:Nat.beq k n with|true=>rw[dH (kY h)]|false=>rw[dM (dq4 h)]
theorem gX{α:Type}{n:Nat}{l r:List (Nat×α)}:lk (l++r) n=match lk l n with|some a=>some a|none=>lk r n:=by
 induction l with
 | nil=>rfl
 | cons x l ih =>
  obtain⟨k,a⟩:=x;rw[qdB,aS,aS];split;rfl;exact ih
end Go.Pm
namespace Go.Pm
variable [aG]
open Go.RowKit (Below)
section
variable{P:Program}{w:World}
theorem addr_add(b o n:Nat):(⟨b,o,none⟩:Addr).add n=⟨b,o+n,none⟩:=by
 unfold Addr.add;split<;>simp_all
theorem run_underlying{t:TypeId}{d:TypeDesc}(h:P.underlying t=some d):(underlying t).run P w=.ok d w:=by
 simp[underlying,h]
theorem run_sizeOf{t:TypeId}{n:Nat}(h:oP P t=some n):(sizeOf t).run P w=.ok n w:=by
 unfold oP at h;cases hi:P.info? t with|none=>simp[hi]at h|some i=>simp[hi]at h;simp[sizeOf,typeInfo,hi,h]
theorem nI{t:TypeId}{g:Bool}(h:jb P t=some g):(isAgg t).run P w=.ok g w:=by
 unfold jb at h;cases hi:P.underlying t with|none=>simp[hi]at h|some d=>simp[hi]at h;simp only[isAgg,Sem.run_bind,run_underlying hi,Result.andThen_ok];cases d<;>simp_all
theorem kU{t:TypeId}{i:TypeInfo}{z:Value}(h:P.info? t=some i)(hz:i.zero=some z):(zeroValue t).run P w=.ok z w:=by
 simp[zeroValue,typeInfo,h,hz]
theorem cell_of{b o:Nat}{C:Array Value}{ty:TypeId}{fr:Nat×Nat}(h:w.heap[b]? = some (.cells C ty fr)):w.cell? ⟨b,o,none⟩=C[o]?:=by
 simp[World.cell?,h]
theorem Iw{t:TypeId}{n b o:Nat}{C:Array Value}{ty:TypeId}{fr:Nat×Nat}(hg:jb P t=some true)(hs:oP P t=some n)
    (h:w.heap[b]? = some (.cells C ty fr)) (vs:List Value) (hl:vs.length=n) (hv:∀(j:Nat)(v:Value),vs[j]? = some v->C[o+j]? = some v) :
    (loadVar t ⟨b,o,none⟩).run P w=.ok (.agg vs.toArray) w:=by
  have hc:=run_loadCells_list (P:=P) (w:=w) ⟨b,o,none⟩ vs (λj v hj=>by rw[addr_add,cell_of h];exact hv j v hj);simp only[loadVar,Sem.run_bind,nI hg,Result.andThen_ok,OM,run_sizeOf hs,<- hl,hc,Sem.run_pure]
theorem wU{t:TypeId}{b o:Nat}{C:Array Value}{ty:TypeId}{fr:Nat×Nat}(hg:jb P t=some false)
    (h:w.heap[b]? = some (.cells C ty fr)) (v:Value) (hv:C[o]? = some v) :
    (loadVar t ⟨b,o,none⟩).run P w=.ok v w:=by
  simp only[loadVar,Sem.run_bind,nI hg,Result.andThen_ok,qdm,qd2,run_load,cell_of h,hv]
theorem Us{t:TypeId}{b o f off:Nat}(h:JF P t f=some off) :
  (Instr.fieldAt t (.pointer (some ⟨b,o,none⟩)) f).run P w=.ok (.pointer (some ⟨b,o+off,none⟩)) w:=by
 unfold JF at h;split at h;rename_i fs hu;split at h;rename_i fd hf;split at h;rename_i k hs;simp at h;subst h;simp only[Instr.fieldAt,Sem.run_bind,run_underlying hu,Result.andThen_ok,hf,Instr.sureAddr,Sem.run_pure,fieldPlace,run_sizeOf hs];simp[addr_add];cases h;cases h;cases h
theorem run_indexAt_slice{t e:TypeId}{n b o len cap:Nat}{k:IntKind}{i:Int}(hu:P.underlying t=some (.slice e))(hs:oP P e=some n)(h0:0≤i)(h1:i<(len:Int)) :
  (Instr.indexAt t (.slice (some ⟨b,o,none⟩) len cap) (.int k i)).run P w=.ok (.pointer (some ⟨b,o+i.toNat*n,none⟩)) w:=by
 simp only[Instr.indexAt,asIntOf,Sem.run_bind,Sem.run_pure,Result.andThen_ok,run_underlying hu,h0,h1,and_self,OM,run_sizeOf hs,addr_add]
theorem xP{b:Nat}{ty:TypeId}:∀(vs:List Value)(o:Nat)(C:Array Value)(w:World),w.heap[b]? = some (.cells C ty (0,0))->o+vs.length<=C.size->(∀v∈vs,v.oneCell'=true) ->
  ∀(base i:Nat),o=base+i->∃w',(storeCells ⟨b,base,none⟩ vs i).run P w=.ok () w'/\w'.heap[b]? = some (.cells (spl C.toList o vs).toArray ty (0,0))/\w'.heap.size=w.heap.size /\
   (∀k,k≠b->w'.heap[k]? = w.heap[k]?)/\w'.os=w.os/\w'.tape=w.tape/\w'.output=w.output/\w'.drawn=w.drawn
 | [],o,C,w,h,_,_,base,i,_=>⟨w,by simp[storeCells],by simpa [spl]using h,rfl,λ_ _=>rfl,rfl,rfl,rfl,rfl⟩
 | v::r,o,C,w,h,hl,h1,base,i,ho=>by
  subst ho;have jv:base+i<C.size:=by simp at hl;omega
  have qW:w.cell? ⟨b,base+i,none⟩=some C[base+i]:=by rw[cell_of h];simp[jv]
  have hfr:w.frozen? ⟨b,base+i,none⟩=false:=frozen_of_row w b (base+i) C ty h;let w1:=w.setCell ⟨b,base+i,none⟩ v;have h2:w1.heap[b]? = some (.cells (C.set! (base+i) v) ty (0,0)):=by
   simp[w1,World.setCell,qjP,h]
  have jw:w1.heap.size=w.heap.size:=by simp[w1,World.setCell]
  have qo:∀k,k≠b->w1.heap[k]? = w.heap[k]?:=λk hk=>heap_setCell_other w _ k v hk;obtain⟨w',hr,hh,qZ,kN,h5,h6,h7,h8⟩:=xP r (base+i+1) (C.set! (base+i) v) w1 h2 (by simp at hl ⊢;omega) (λu hu=>h1 u (jB _ hu)) base (i+1) omY;refine⟨w',?_,?_,qZ.trans jw,λk hk=>(kN k hk).trans (qo k hk),h5,h6,h7,h8⟩;rw [storeCells];simp only[Sem.run_bind,addr_add,run_store P w _ v _ (h1 v jM),qW,hfr,qdm,qd2,Result.andThen_ok];exact hr;rw [hh];simp[spl]
end
end Go.Pm
namespace Go.Pm
variable [aG]
open Go.RowKit (Below)
theorem BR{α:Type}:∀(l' l:List α)(off j:Nat),off+l'.length≤l.length→(spl l off l')[j]? = if off≤j∧j<off+l'.length then l'[j-off]? else l[j]?
  | [],l,off,j,_=>by simp only[spl,X6];rw[dM omY]
  | x::r,l,off,j,h=>by
    have h':off+1+r.length<=(l.set off x).length:=by simp at h ⊢;omega
    rw[spl,BR r (l.set off x) (off+1) j h'];simp only[xm]at h ⊢;by_cases hj:j=off;subst hj;rw[dM omY,dH omY];have:j<l.length:=by omega
    simp[this];by_cases hr:off+1≤j∧j<off+1+r.length;rw [dH hr,dH omY];have e:j-off=(j-(off+1))+1:=by omega
    rw[e,Yg];rw[dM hr,dM omY,qjm omY]
theorem zaC{g:Nat->List PV}(hg:tX g){i k:Nat}{l:List PV}(hk:k+l.length<=(g 0).length)(hs:smL (((g 0).drop k).take l.length) l=true)(hl:RS l l):tX (zA i k g l):=by
 have hp:RS (((g 0).drop k).take l.length) l:=JK hs (((hg 0 0).drop k).take _) hl;have key:∀j j',RS (spl (g j) k l) (g j'):=λj j'=>by
  have e0:=(hg 0 j).length;refine RL.of_get (by rw[lD];exact(hg j j').length) λp a b ha hb=>?_;rw[BR _ _ _ _ omY]at ha;split at ha;rename_i hr;obtain⟨c,hc,r⟩:=RL.get' hp (p-k) a ha;rw[IV,dH omY,dqX,show k+(p-k)=p by omega]at hc;obtain⟨d,hd,r2⟩:=RL.get (hg 0 j') p c hc;rw[hb]at hd;cases hd;exact r.symm.trans r2;obtain⟨d,hd,r2⟩:=RL.get (hg j j') p a ha;rw[hb]at hd;cases hd;exact r2
 intro j j';unfold zA;split<;>split;exact(key j j').trans (key j' j').symm;exact key _ _;exact(key _ _).symm;exact hg _ _
theorem E8(off:Nat):∀(l:List Value)(k:Nat)(C:Array Value),
  (l.zipIdx k).foldl (λ(cs:Array Value)(x:Value×Nat)=>cs.setIfInBounds (off+x.2) x.1) C=(spl C.toList (off+k) l).toArray
 | [],k,C=>by simp[spl]
 | x::r,k,C=>by
  rw[List.zipIdx_cons,qdy,E8 off r (k+1) _,spl];simp[qjn]
section
variable{P:Program}{w:World}
theorem ui{g:Gh}{d:D1}{v:Value}(h:zS g d v)(ho:d.cells.all BI=true):RL (iV g) d.cells v.cells.toList:=by
 cases d with
 | c x =>
  have h1:=zaB h (by simpa [D1.cells]using ho);have:v.cells = #[v]:=by cases v<;>simp_all [Value.oneCell',Value.cells]
  rw[this];exact⟨h,trivial⟩
 | agg cs =>
  obtain⟨vs,rfl,hr⟩:=h;simpa [D1.cells,Value.cells]using hr
theorem Ut{fs:Array Field}(h:∀f∈fs,(oP P f.type).isSome=true) :
  (fs.mapM λf=>do pure (f.offset,<- sizeOf f.type):Sem (Array (Nat×Nat))).run P w=.ok (fs.map λf=>(f.offset,(oP P f.type).getD 0)) w:=by
 have key:∀l:List Field,(∀f∈l,(oP P f.type).isSome=true) ->
   (l.mapM λf=>do pure (f.offset,<- sizeOf f.type):Sem (List (Nat×Nat))).run P w=.ok (l.map λf=>(f.offset,(oP P f.type).getD 0)) w:=by
  intro l
  induction l with
  | nil=>intro _;rfl
  | cons f l ih =>
   intro hl;obtain⟨n,hn⟩:=jqy.1 (hl f jM);rw[qjD];simp only[Sem.run_bind,run_sizeOf hn,Result.andThen_ok,Sem.run_pure,ih (λg hg=>hl g (jB _ hg)),nU,hn,qdI]
 rw[qjE,Sem.run_map,key fs.toList (λf hf=>h f (by simpa using hf))];cases fs;simp
theorem xQ{g:Gh}{ρ:Operand→Value}{ev:Operand→DV}(Qo:∀o,qH g (ev o) (ρ o)){t:TypeId}(place:Nat→Option (Nat×Nat))
    (hp:∀(i off n:Nat),(match P.underlying t with
      | some (.struct fs)=>match fs[i]? with
        | some fd=>match oP P fd.type with|some m=>off=fd.offset/\n=m|none=>False
        | none=>False
      | some (.array _ e)=>match oP P e with|some m=>off=i*m/\n=m|none=>False
      | _=>False)->place i=some (off,n)) :
    ∀(parts:List (Nat×Operand))(z l:List Cl)(C:Array Value),gY P t ev z parts=some l->RL (iV g) z C.toList ->
      ∃D:Array Value,Instr.fill place C (parts.map λx=>(x.1,ρ x.2))=some D/\RL (iV g) l D.toList
  | [],z,l,C,h,hz=>by
    simp[gY]at h;subst h;exact⟨C,rfl,hz⟩
  | (i,o)::r,z,l,C,h,hz=>by
    have hd:=Qo o;simp only[gY]at h;cases he:ev o with
    | tup ds=>simp[he]at h
    | one d =>
      simp only[he]at h;rw[he]at hd
      have step:∀(off n:Nat),place i=some (off,n)->n=d.cells.length->off+n<=z.length->d.cells.all BI=true->gY P t ev (spl z off d.cells) r=some l ->
          ∃D:Array Value,Instr.fill place C (((i,o)::r).map λx=>(x.1,ρ x.2))=some D/\RL (iV g) l D.toList:=by
        intro off n TY hn hle fK hb;have hc:=ui hd fK;have hlen:=hc.length;have hzl:=hz.length;have hr2:RL (iV g) (spl z off d.cells) (spl C.toList off (ρ o).cells.toList):=hz.spl hc off;obtain⟨D,hD,hR⟩:=xQ Qo place hp r _ l (spl C.toList off (ρ o).cells.toList).toArray hb (by simpa using hr2);refine⟨D,?_,hR⟩;simp only[nU,Instr.fill,TY];have h1:¬((ρ o).cells.size≠n):=by simp only[Decidable.not_not,ne_eq];rw[hn,hlen];simp
        have h2:¬(off+(ρ o).cells.size>C.size):=by
          have:(ρ o).cells.size=d.cells.length:=by rw[hlen];simp
          have:C.size=z.length:=by rw[hzl];simp
          omega
        have h3:((decide ((ρ o).cells.size≠n)||decide (off+(ρ o).cells.size>C.size))=true)=False:=by simp[h1,h2]
        rw[dM (by rw[h3];exact id)];rw[<- hD];refine jF (λz=>Instr.fill place z _) ?_;have:=E8 off (ρ o).cells.toList 0 C;rw[qdQ]at this;rw[<- this];cases(ρ o).cells;simp
      cases hu:P.underlying t with
      | none=>simp[hu]at h
      | some dd =>
        cases dd with
        | struct fs =>
          simp only[hu]at h;cases hf:fs[i]? with
          | none=>simp[hf]at h
          | some fd =>
            simp only[hf]at h;cases hs:oP P fd.type with
            | none=>simp[hs]at h
            | some n =>
              simp only[hs]at h;split at h;rename_i cO;simp only[fH,Ud]at cO;exact step fd.offset n (hp i _ _ (by simp[hu,hf,hs])) (kY cO.1.1) cO.1.2 cO.2 h;cases h
        | array m e =>
          simp only[hu]at h;cases hs:oP P e with
          | none=>simp[hs]at h
          | some n =>
            simp only[hs]at h;split at h;rename_i cO;simp only[fH,Ud]at cO;exact step (i*n) n (hp i _ _ (by simp[hu,hs])) (kY cO.1.1) cO.1.2 cO.2 h;cases h
        | _=>simp[hu]at h
theorem JY{h:Fz}{v:Value}{p:PV}(hv:vG v=some p):Rep h p v:=by
 unfold vG at hv;split at hv<;>first|(cases hv;done)|(simp at hv;subst hv;constructor)
theorem kE{g:Gh}:∀(l:List Value)(cs:List Cl),jf l=some cs→RL (iV g) cs l
  | [],cs,h=>by simp[jf]at h;subst h;trivial
  | v::r,cs,h=>by
    simp only[jf]at h;split at h;rename_i x l hx hl;simp at h;subst h;exact⟨JY hx,kE r l hl⟩;cases h
theorem lF{t:TypeId}{z:List Cl}(h:gu P t=some z):∃i v,P.info? t=some i/\i.zero=some v/\jf v.cells.toList=some z/\z.length=i.size:=by
 unfold gu at h;split at h;rename_i i hi;split at h;rename_i v hz;split at h;rename_i l hl;split at h;rename_i hs;simp at h;subst h;exact⟨i,v,hi,hz,hl,hs⟩;cases h;cases h;cases h;cases h
theorem zc4{t:TypeId}{z:List Cl}(h:gu P t=some z):∃i v,P.info? t=some i/\i.zero=some v/\v.cells.size=i.size:=by
 obtain⟨i,v,hi,hz,hl,hs⟩:=lF h;have:=(kE (g:=⟨λ_=>none,λ_=>0,λ_=>undef,λ_ _=>undef⟩) _ _ hl).length;exact⟨i,v,hi,hz,by rw[<- hs,this];simp⟩
theorem run_build{g:Gh}{ρ:Operand→Value}{ev:Operand→DV}(Qo:∀o,qH g (ev o) (ρ o)){t:TypeId}{parts:Array (Nat×Operand)}{z l:List Cl}
    (hf:xI P t=true) (hz:gu P t=some z) (hb:gY P t ev z parts.toList=some l) :
    ∃v,(Instr.build t (parts.map λx=>(x.1,ρ x.2))).run P w=.ok v w/\zS g (.agg l) v:=by
  obtain⟨i,v,hi,Gx,hl,_⟩:=lF hz;have hzr:=kE (g:=g) _ _ hl;unfold xI at hf;cases hu:P.underlying t with
  | none=>simp[hu]at hf
  | some d =>
    cases d with
    | struct fs =>
      simp only[hu]at hf;have Gy:∀f∈fs,(oP P f.type).isSome=true:=λf hf'=>Aj.1 hf f (by simpa using hf');obtain⟨D,hD,hR⟩:=xQ (P:=P) Qo (t:=t) ((fs.map λf=>(f.offset,(oP P f.type).getD 0))[·]?) (by
        intro i off n hm;simp only[hu]at hm;cases hfi:fs[i]? with
        | none=>simp[hfi]at hm
        | some fd =>
          cases hs:oP P fd.type with|none=>simp[hfi,hs]at hm|some m=>simp[hfi,hs]at hm;simp[hfi,hs,hm.1,hm.2]) parts.toList z l v.cells hb hzr
      refine⟨.agg D,?_,⟨D.toList,by simp,hR⟩⟩;simp only[Instr.build,Sem.run_bind,kU hi Gx,Result.andThen_ok,run_underlying hu,Ut Gy];simp only[qjh];rw[hD];rfl
    | array m e =>
      simp only[hu]at hf;obtain⟨n,hn⟩:=jqy.1 hf;obtain⟨D,hD,hR⟩:=xQ (P:=P) Qo (t:=t) (λi=>some (i*n,n)) (by
        intro i off k hm;simp only[hu,hn]at hm;simp[hm.1,hm.2]) parts.toList z l v.cells hb hzr
      refine⟨.agg D,?_,⟨D.toList,by simp,hR⟩⟩;simp only[Instr.build,Sem.run_bind,kU hi Gx,Result.andThen_ok,run_underlying hu,run_sizeOf hn];simp only[qjh];rw[hD];rfl
    | _=>simp[hu]at hf
end
end Go.Pm
namespace Go.Pm
variable [aG]
open Go.RowKit (Below)
def iO(g g':Gh)(L:Nat):Prop:=g'.bk L=g.bk L/\g'.sv L=g.sv L/\g'.iv L=g.iv L
theorem iO.refl(g:Gh)(L:Nat):iO g g L:=⟨rfl,rfl,rfl⟩
def O0(g g':Gh)(l:List Nat):Prop:=∀L∈l,iO g g' L
theorem Uu{g g':Gh}{c:Cl}{x:Value}(hl:O0 g g' (aY c))(hle:jX g.h g'.h)(h:iV g c x):iV g' c x:=by
 cases c with
 | p v=>exact Rep.mono hle h
 | ptr L off=>have:=(hl L (by simp[aY])).1;simp only[iV]at h ⊢;rw[this];exact h
 | vptr L s i k=>have:=(hl L (by simp[aY])).2.1;simp only[iV]at h ⊢;rw[this];exact h
 | vec L=>have:=(hl L (by simp[aY])).2.1;simp only[iV]at h ⊢;rw[this];exact h
 | mo L=>have:=(hl L (by simp[aY])).2.1;simp only[iV]at h ⊢;rw[this];exact h
 | clo f caps=>obtain⟨cv,e,hr⟩:=h;exact⟨cv,e,qw (λ_ _=>Rep.mono hle) (λL hL=>(hl L hL).1) hr⟩
 | undef=>exact h
 | junk=>trivial
 | dead L=>trivial
theorem rJ{g g':Gh}:∀{cs:List Cl}{vs:List Value},O0 g g' (cs.flatMap aY)→jX g.h g'.h→RL (iV g) cs vs→RL (iV g') cs vs|[],[],_,_,_=>trivial|[],_::_,_,_,h=>h.elim|_::_,[],_,_,h=>h.elim|c::cs,v::vs,hl,hle,h=>⟨Uu (λL hL=>hl L (by simp[hL])) hle h.1,rJ (λL hL=>hl L (by simp only[lX,dG];exact .inr hL)) hle h.2⟩
theorem Uw{g g':Gh}{d:D1}{x:Value}(hl:O0 g g' (dw d))(hle:jX g.h g'.h)(h:zS g d x):zS g' d x:=by
 cases d with
 | c y=>exact Uu hl hle h
 | agg cs=>obtain⟨vs,rfl,hr⟩:=h;exact⟨vs,rfl,rJ hl hle hr⟩
theorem GI{g g':Gh}:∀{cs:List D1}{vs:List Value},O0 g g' (cs.flatMap dw)→jX g.h g'.h→RL (zS g) cs vs→RL (zS g') cs vs|[],[],_,_,_=>trivial|[],_::_,_,_,h=>h.elim|_::_,[],_,_,h=>h.elim|c::cs,v::vs,hl,hle,h=>⟨Uw (λL hL=>hl L (by simp[hL])) hle h.1,GI (λL hL=>hl L (by simp only[lX,dG];exact .inr hL)) hle h.2⟩
theorem Ux{g g':Gh}{d:DV}{x:Value}(hl:O0 g g' (bQ d))(hle:jX g.h g'.h)(h:qH g d x):qH g' d x:=by
 cases d with
 | one y=>exact Uw hl hle h
 | tup ds=>obtain⟨vs,rfl,hr⟩:=h;exact⟨vs,rfl,GI hl hle hr⟩
theorem iY{w w':World}{B e s n:Nat}{v:Value}{xs:List Value}(h:w.ownsRow B e s v n xs)(hw:∀b,v.ownBlock=some b→w'.heap[b]? = w.heap[b]?) :
  w'.ownsRow B e s v n xs:=by
 refine⟨h.1,?_⟩;rcases h.2 with hn|⟨g,cap,cur,rfl,hb,hg,rest⟩
 exact .inl hn;exact .inr ⟨g,cap,cur,rfl,hb,by rw[hw g rfl];exact hg,rest⟩
theorem O1{P:Program}{g g':Gh}{w w':World}{B L e s b n:Nat}{get:Nat→List PV}(h:BP P g w B L e s b n get)(hs:g'.sv L=g.sv L)(hle:jX g.h g'.h)
    (hw:∀b,(g.sv L).ownBlock=some b->w'.heap[b]? = w.heap[b]?):BP P g' w' B L e s b n get:=by
  obtain⟨h1,h2,xs,hx,hr⟩:=h;refine⟨h1,h2,xs,?_,λi hi=>(hr i hi).mono λ_ _=>Rep.mono hle⟩;rw[hs];exact iY hx hw
theorem Uy{P:Program}{g g':Gh}{w w':World}{B L te bb e s b n:Nat}{ln:Nat→Nat}{get:Nat→Nat→List PV}(h:vvR P g w B L te bb e s b n ln get)(hl:iO g g' L)(hle:jX g.h g'.h)
    (hw:∀k,gy g L (.vv te bb e s b n ln get) k->w'.heap[k]? = w.heap[k]?):vvR P g' w' B L te bb e s b n ln get:=by
  obtain⟨h1,h2,h3,h4,h5,h6⟩:=h;refine⟨h1,h2,h3,?_,λi hi=>?_,?_⟩;rw[hl.2.1,hl.2.2];exact iY h4 λk hk=>hw k (.inl hk);obtain⟨h7,h70,xs,hx,hr⟩:=h5 i hi;rw[hl.2.2];exact⟨h7,h70,xs,iY hx λk hk=>hw k (.inr ⟨i,hi,hk⟩),λj hj=>(hr j hj).mono λ_ _=>Rep.mono hle⟩;rw[hl.2.1,hl.2.2];exact h6
theorem Uz{P:Program}{g g':Gh}{w w':World}{B L te bb e s b n o:Nat}{ln:Nat→Nat}{get:Nat→Nat→List PV}(h:vtR P g w B L te bb e s b n ln get o)(hl:iO g g' L)(hle:jX g.h g'.h)
    (hw:∀k,gy g L (.vt te bb e s b n ln get o) k->w'.heap[k]? = w.heap[k]?):vtR P g' w' B L te bb e s b n ln get o:=by
  obtain⟨h1,h2,h3,h4,h41,h42,h5,h6⟩:=h;refine⟨h1,h2,h3,?_,by rw[hl.2.2];exact h41,by rw[hl.2.2];exact h42,λi hi ho=>?_,?_⟩;rw[hl.2.1,hl.2.2];exact iY h4 λk hk=>hw k (.inl hk);obtain⟨h7,h70,xs,hx,hr⟩:=h5 i hi ho;rw[hl.2.2];exact⟨h7,h70,xs,iY hx λk hk=>hw k (.inr ⟨i,hi,ho,hk⟩),λj hj=>(hr j hj).mono λ_ _=>Rep.mono hle⟩;rw[hl.2.1,hl.2.2];exact h6
theorem jH{P:Program}{g g':Gh}{w w':World}{B L:Nat}{o:AO}(h:NS P g w B L o)(hl:iO g g' L)(hm:O0 g g' (dJ o))(hle:jX g.h g'.h)
    (hw:∀b,gy g L o b->w'.heap[b]? = w.heap[b]?):NS P g' w' B L o:=by
  cases o with
  | box ty cs=>obtain⟨C,hC,hr⟩:=h;refine⟨C,?_,rJ hm hle hr⟩;rw[hl.1,hw _ rfl];exact hC
  | fbox cs=>obtain⟨C,ty,fr,hC,hr⟩:=h;refine⟨C,ty,fr,?_,hr.mono λ_ _=>Rep.mono hle⟩;rw[hl.1];exact hle _ _ hC
  | vec e s b n get=>exact O1 h hl.2.1 hle hw
  | fvec s n get=>simp only[NS]at h ⊢;rw[hl.2.1];exact⟨Rep.mono hle h.1,h.2⟩
  | vv te bb e s b n ln get=>exact Uy h hl hle hw
  | vt te bb e s b n ln get o=>exact Uz h hl hle hw
  | mo kt vt q n F=>obtain⟨es,clock,hC,hr⟩:=h;refine⟨es,clock,?_,hr⟩;rw[hl.2.1,hw _ rfl];exact hC
  | gone=>trivial
theorem fV{g g':Gh}{L:Nat}{o:AO}(hl:iO g g' L):gy g' L o=gy g L o:=by
 funext b;cases o<;>simp[gy,hl.1,hl.2.1,hl.2.2]
theorem gZ{P:Program}{g:Gh}{w:World}{B L b:Nat}{o:AO}(h:NS P g w B L o)(hb:gy g L o b):b<w.heap.size:=by
 cases o with
 | box ty cs=>simp[gy]at hb;subst hb;obtain⟨C,hC,_⟩:=h;exact(X5.1 hC).1
 | fbox cs=>simp[gy]at hb
 | vec e s b' n get =>
  obtain⟨_,_,xs,hx,_⟩:=h;exact(hx.lt b hb).2
 | fvec s n get=>simp[gy]at hb
 | vv te bb e s b' n ln get =>
  obtain⟨_,_,_,h4,h5,_⟩:=h;rcases hb with hb|⟨i,hi,hb⟩
  exact(h4.lt b hb).2;obtain⟨_,_,xs,hx,_⟩:=h5 i hi;exact(hx.lt b hb).2
 | vt te bb e s b' n ln get o =>
  obtain⟨_,_,_,h4,_,_,h5,_⟩:=h;rcases hb with hb|⟨i,hi,ho,hb⟩
  exact(h4.lt b hb).2;obtain⟨_,_,xs,hx,_⟩:=h5 i hi ho;exact(hx.lt b hb).2
 | mo kt vt q n F=>simp[gy]at hb;subst hb;obtain⟨es,clock,hC,_⟩:=h;exact(X5.1 hC).1
 | gone=>exact hb.elim
section
variable{P:Program}{nt B:Nat}{w0:World}{h0:Fz}{g:Gh}{σ:St}{a:Act}{w:World}
theorem bK.log(S:bK P nt B w0 h0 g σ a w)(l:List (Nat×Nat×Nat)):bK P nt B w0 h0 g {σ with log:=l} a w :=
 ⟨S.dfr,S.size,S.env,S.obj,S.own,S.sep,S.hw,S.le0,S.hn,S.below,S.bs,S.clE,S.clO⟩
theorem zgc(a:Act)(t:Nat)(v:Value)(u:Nat)(ht:t<a.tmps.size):(a.put (some t) v).tmps.getD u undef=if t=u then v else a.tmps.getD u undef:=by
 simp only[Act.put,yP,qdZ];by_cases h:t=u;subst h;simp[ht];simp[h]
def Yt(dst:Option Nat)(d:DV)(e:List (Nat×DV)):List (Nat×DV) :=
 match dst with|some t=>(t,d)::e|none=>e
theorem fG(σ:St)(i:Nat)(dst:Option Nat)(fp:List (Nat×Bool))(d:DV)(u:List (Nat×AO)):σ.upd i dst fp d u []=⟨Yt dst d σ.env,u++σ.ay,σ.log⟩:=by
 cases dst<;>rfl
theorem bK.put(S:bK P nt B w0 h0 g σ a w){dst:Option Nat}{d:DV}{v:Value}(hd:dA nt dst=true)(hv:qH g d v)(hl:∀L∈bQ d,∃o,lk σ.ay L=some o)
    (l:List (Nat×Nat×Nat)):bK P nt B w0 h0 g ⟨Yt dst d σ.env,σ.ay,l⟩ (a.put dst v) w:=by
  cases dst with
  | none=>exact S.log l
  | some t =>
    have ht:t<nt:=by simpa [dA,qd6]using hd
    have hts:t<a.tmps.size:=qdi ht S.size;refine⟨S.dfr,by simpa [Act.put]using S.size,?_,S.obj,S.own,S.sep,S.hw,S.le0,S.hn,S.below,S.bs,?_,S.clO⟩;intro u e hu;rw[zgc a t v u hts];simp only[Yt,aS]at hu;split at hu;rename_i h;simp at hu;subst hu;rw[dH h];exact hv;rename_i h;rw[dM h];exact S.env u e hu;intro u e hu;simp only[Yt,aS]at hu;split at hu;simp at hu;subst hu;exact hl;exact S.clE u e hu
theorem bK.change(S:bK P nt B w0 h0 g σ a w){g':Gh}{w':World}{zT:List (Nat×AO)}
    (zK:∀L o,lk σ.ay L=some o->iO g g' L) (hle:jX g.h g'.h) (Jw:Hw g'.h w')
    (hn':∀b o,g'.h b=some o->g.h b=some o\/B<=b) (hb:xE h0 B w w')
    (zKO:∀L o,lk zT L=some o->NS P g' w' B L o) (iU:∀L o b,lk zT L=some o->gy g' L o b->B<=b/\g'.h b=none)
    (IP:∀L o b L' o',lk zT L=some o->lk zT L'=some o'->gy g' L o b->gy g' L' o' b->L=L')
    (xB:∀L o,lk σ.ay L=some o->∃o',lk zT L=some o') (zKP:∀L o,lk zT L=some o->∀M∈dJ o,∃o',lk zT M=some o') :
    bK P nt B w0 h0 g' {σ with ay:=zT} a w':=by
  refine⟨S.dfr.mono hle,S.size,?_,zKO,iU,IP,Jw,λb o h=>hle _ _ (S.le0 b o h),?_,S.below.trans hb,BH S.bs hb.size,?_,zKP⟩;intro t d ht;refine Ux (λL hL=>?_) hle (S.env t d ht);obtain⟨o,ho⟩:=S.clE t d ht L hL;exact zK L o ho;intro b o h;rcases hn' b o h with h|h
  exact S.hn b o h;exact .inr h;intro t d ht L hL;obtain⟨o,ho⟩:=S.clE t d ht L hL;exact xB L o ho
theorem bK.world(S:bK P nt B w0 h0 g σ a w){h':Fz}{w':World}(hle:jX g.h h')(Jw:Hw h' w')
    (hn':∀b o,h' b=some o->g.h b=some o\/w.heap.size<=b) (hb:xE g.h w.heap.size w w'):bK P nt B w0 h0 ⟨h',g.bk,g.sv,g.iv⟩ σ a w':=by
  have jv:∀L o b,lk σ.ay L=some o->gy g L o b->b<w.heap.size:=λL o b ho bT=>gZ (S.obj L o ho) bT
  have key := S.change (g' := ⟨h', g.bk, g.sv, g.iv⟩) (w' := w') (zT := σ.ay) (fun _ _ _ => ⟨rfl, rfl, rfl⟩) hle Jw
    (λb o h=>(hn' b o h).imp id λh=>BH S.bs h) ⟨hb.os,hb.tape,hb.output,hb.size,hb.drawn,λk hk=>hb.block k (qdi hk S.bs)⟩
    (λL o ho=>jH (S.obj L o ho) ⟨rfl,rfl,rfl⟩ (λ_ _=>⟨rfl,rfl,rfl⟩) hle λb bT=>hb.block b (jv L o b ho bT))
    (λL o b ho bT=>by
      have fP:gy g L o b:=Eq.mp (qj0 (fV (g:=g) (g':=⟨h',g.bk,g.sv,g.iv⟩) ⟨rfl,rfl,rfl⟩) _) bT;obtain⟨h1,h2⟩:=S.own L o b ho fP;refine⟨h1,?_⟩;cases hh:h' b with
      | none=>exact hh
      | some x =>
        rcases hn' b x hh with h3|h3
        rw[h2]at h3;cases h3;exact absurd (jv L o b ho fP) omY)
    (fun L o b L' o' ho kN bT fP => S.sep L o b L' o' ho kN
      (Eq.mp (qj0 (fV (g:=g) (g':=⟨h',g.bk,g.sv,g.iv⟩) ⟨rfl,rfl,rfl⟩) _) bT) (Eq.mp (qj0 (fV (g:=g) (g':=⟨h',g.bk,g.sv,g.iv⟩) ⟨rfl,rfl,rfl⟩) _) fP))
    (λL o h=>⟨o,h⟩) S.clO
  exact key
theorem uj{h:Fz}(hw:Hw h w){b:Nat}{o:FzO}(hb:h b=some o):b<w.heap.size:=hw.lt hb
def Gh.setBk(g:Gh)(t b:Nat):Gh:=⟨g.h,λL=>if L=t then b else g.bk L,g.sv,g.iv⟩
def Gh.setSv(g:Gh)(t:Nat)(v:Value):Gh:=⟨g.h,g.bk,λL=>if L=t then v else g.sv L,g.iv⟩
def Gh.setVv(g:Gh)(t:Nat)(v:Value)(iv:Nat->Value):Gh:=⟨g.h,g.bk,λL=>if L=t then v else g.sv L,λL=>if L=t then iv else g.iv L⟩
theorem bK.newBox(S:bK P nt B w0 h0 g σ a w){t ty:Nat}{cs:List Cl}{C:Array Value}(ht:lk σ.ay t=none)(hC:RL (iV g) cs C.toList)
    (zN:∀M∈cs.flatMap aY,∃o,lk σ.ay M=some o) :
    bK P nt B w0 h0 (g.setBk t w.heap.size) {σ with ay:=(t,.box ty cs)::σ.ay} a (w.alloc (.cells C ty)):=by
  have iK:∀L o,lk σ.ay L=some o->L≠t:=λL o h e=>by subst e;rw[ht]at h;cases h
  have ed:∀L o,lk σ.ay L=some o->iO g (g.setBk t w.heap.size) L:=λL o h=>⟨by simp[Gh.setBk,iK L o h],rfl,rfl⟩;have hold:∀b,b<w.heap.size->(w.alloc (.cells C ty)).heap[b]? = w.heap[b]?:=λb hb=>heap_alloc_old w _ b hb;have jU:∀L o,lk ((t,AO.box ty cs)::σ.ay) L=some o->(L=t/\o=.box ty cs)\/(L≠t/\lk σ.ay L=some o):=by
    intro L o h;rw[aS]at h;split at h;rename_i e;simp at h;exact .inl ⟨e.symm,h.symm⟩;rename_i e;exact .inr ⟨λe'=>e e'.symm,h⟩
  have gU:∀L o b,lk σ.ay L=some o->gy (g.setBk t w.heap.size) L o b->gy g L o b:=λL o b ho bT=>Eq.mp (qj0 (fV (ed L o ho)) _) bT;refine S.change (g':=g.setBk t w.heap.size) ed (λ_ _ h=>h) ?_ (λb o h=>.inl h) (xE.of ⟨(Below.refl B w).alloc S.bs _,jy _⟩) ?_ ?_ ?_ ?_ ?_;exact S.hw.same λb o h=>hold b (uj S.hw h);intro L o ho;rcases jU L o ho with⟨rfl,rfl,rfl⟩|⟨_,ho⟩
  refine⟨C,by show(w.alloc _).heap[(if _ then w.heap.size else _)]? = _;rw [dH rfl];exact heap_alloc_new w _,rJ (g:=g) (g':=g.setBk _ w.heap.size) (fun M hM => ?_) (fun _ _ h=>h) hC⟩;obtain⟨o,ho⟩:=zN M hM;exact ed M o ho;refine jH (S.obj L o ho) (ed L o ho) (fun M hM => ?_) (fun _ _ h=>h) (fun b bT=>hold b (gZ (S.obj L o ho) bT));obtain⟨o',kN⟩:=S.clO L o ho M hM;exact ed M o' kN;intro L o b ho bT;rcases jU L o ho with⟨rfl,rfl,rfl⟩|⟨_,ho⟩
  · simp [gy,Gh.setBk]at bT;subst bT;refine⟨S.bs,?_⟩;cases hh:g.h w.heap.size with|none=>exact hh|some x=>exact absurd (uj S.hw hh) omY
  exact S.own L o b ho (gU L o b ho bT);intro L o b L' o' ho kN bT fP;rcases jU L o ho with⟨rfl,rfl,rfl⟩|⟨hn,pz⟩<;>rcases jU L' o' kN with⟨rfl,rfl,rfl⟩|⟨hn',mZ⟩
  rfl;simp [gy,Gh.setBk]at bT;subst bT;exact absurd (gZ (S.obj L' o' mZ) (gU _ _ _ mZ fP)) omY;simp [gy,Gh.setBk]at fP;subst fP;exact absurd (gZ (S.obj L o pz) (gU _ _ _ pz bT)) omY;exact S.sep L o b L' o' pz mZ (gU _ _ _ pz bT) (gU _ _ _ mZ fP);intro L o ho;refine⟨o,?_⟩;rw[aS,dM (λe=>iK L o ho e.symm)];exact ho;intro L o ho M hM;have fin:∀M o,lk σ.ay M=some o->∃o',lk ((t,AO.box ty cs)::σ.ay) M=some o':=λM o h=>⟨o,by rw[aS,dM (λe=>iK M o h e.symm)];exact h⟩;rcases jU L o ho with⟨rfl,rfl,rfl⟩|⟨_,ho⟩
  obtain⟨o,ho⟩:=zN M hM;exact fin M o ho;obtain⟨o',kN⟩:=S.clO L o ho M hM;exact fin M o' kN
theorem bK.newVec(S:bK P nt B w0 h0 g σ a w){t e s b n:Nat}{get:Nat→List PV}{v:Value}{w':World}(ht:lk σ.ay t=none)
    (hb:JW B w w') (hold:∀b,b<w.heap.size->w'.heap[b]? = w.heap[b]?) (hv:∀b,v.ownBlock=some b->w.heap.size<=b)
    (hr:BP P (g.setSv t v) w' B t e s b n get) :
    bK P nt B w0 h0 (g.setSv t v) {σ with ay:=(t,.vec e s b n get)::σ.ay} a w':=by
  have iK:∀L o,lk σ.ay L=some o->L≠t:=λL o h e=>by subst e;rw[ht]at h;cases h
  have ed:∀L o,lk σ.ay L=some o->iO g (g.setSv t v) L:=λL o h=>⟨rfl,by simp[Gh.setSv,iK L o h],rfl⟩;have jU:∀L o,lk ((t,AO.vec e s b n get)::σ.ay) L=some o->(L=t/\o=.vec e s b n get)\/(L≠t/\lk σ.ay L=some o):=by
    intro L o h;rw[aS]at h;split at h;rename_i e;simp at h;exact .inl ⟨e.symm,h.symm⟩;rename_i e;exact .inr ⟨λe'=>e e'.symm,h⟩
  have gU:∀L o b,lk σ.ay L=some o->gy (g.setSv t v) L o b->gy g L o b:=λL o b ho bT=>Eq.mp (qj0 (fV (ed L o ho)) _) bT;have TL:(g.setSv t v).sv t=v:=by simp[Gh.setSv]
  refine S.change (g':=g.setSv t v) ed (λ_ _ h=>h) ?_ (λb o h=>.inl h) (.of hb) ?_ ?_ ?_ ?_ ?_;exact S.hw.same λb o h=>hold b (uj S.hw h);intro L o ho;rcases jU L o ho with⟨rfl,rfl,rfl⟩|⟨_,ho⟩
  exact hr;refine jH (S.obj L o ho) (ed L o ho) (fun M hM => ?_) (fun _ _ h=>h) (fun b bT=>hold b (gZ (S.obj L o ho) bT));obtain⟨o',kN⟩:=S.clO L o ho M hM;exact ed M o' kN;intro L o b' ho bT;rcases jU L o ho with⟨rfl,rfl,rfl⟩|⟨_,ho⟩
  · simp only [gy,TL]at bT;have h1:=hv b' bT;refine⟨BH S.bs h1,?_⟩;cases hh:g.h b' with|none=>exact hh|some x=>exact absurd (uj S.hw hh) omY
  exact S.own L o b' ho (gU L o b' ho bT);intro L o b' L' o' ho kN bT fP;rcases jU L o ho with⟨rfl,rfl,rfl⟩|⟨hn,pz⟩<;>rcases jU L' o' kN with⟨rfl,rfl,rfl⟩|⟨hn',mZ⟩
  rfl;simp only [gy,TL]at bT;have:=hv b' bT;exact absurd (gZ (S.obj L' o' mZ) (gU _ _ _ mZ fP)) omY;simp only [gy,TL]at fP;have:=hv b' fP;exact absurd (gZ (S.obj L o pz) (gU _ _ _ pz bT)) omY;exact S.sep L o b' L' o' pz mZ (gU _ _ _ pz bT) (gU _ _ _ mZ fP);intro L o ho;refine⟨o,?_⟩;rw[aS,dM (λe=>iK L o ho e.symm)];exact ho;intro L o ho M hM;rcases jU L o ho with⟨rfl,rfl,rfl⟩|⟨_,ho⟩
  simp[dJ]at hM;obtain⟨o',kN⟩:=S.clO L o ho M hM;exact⟨o',by rw[aS,dM (λe=>iK M o' kN e.symm)];exact kN⟩
theorem bK.write2(S:bK P nt B w0 h0 g σ a w){L:Nat}{o o':AO}{w':World}(hL:lk σ.ay L=some o)(rX:∀b,gy g L o' b→gy g L o b)
    (hb:JW B w w') (qo:∀b,b<w.heap.size->¬gy g L o b->w'.heap[b]? = w.heap[b]?) (hr:NS P g w' B L o') (zN:∀M∈dJ o',∃o,lk σ.ay M=some o) :
    bK P nt B w0 h0 g {σ with ay:=(L,o')::σ.ay} a w':=by
  have jU:∀M x,lk ((L,o')::σ.ay) M=some x->(M=L/\x=o')\/(M≠L/\lk σ.ay M=some x):=by
    intro M x h;rw[aS]at h;split at h;rename_i e;simp at h;exact .inl ⟨e.symm,h.symm⟩;rename_i e;exact .inr ⟨λe'=>e e'.symm,h⟩
  have xB:∀M x,lk σ.ay M=some x->∃x',lk ((L,o')::σ.ay) M=some x':=by
    intro M x h;rw[aS];split;exact⟨o',rfl⟩;exact⟨x,h⟩
  refine S.change (g':=g) (λ_ _ _=>⟨rfl,rfl,rfl⟩) (λ_ _ h=>h) ?_ (λb o h=>.inl h) (.of hb) ?_ ?_ ?_ xB ?_;exact S.hw.same λb x h=>qo b (uj S.hw h) (λe=>by have:=(S.own L o b hL e).2;rw[this]at h;cases h);intro M x hx;rcases jU M x hx with⟨rfl,rfl,rfl⟩|⟨iK,hx⟩
  exact hr;exact jH (S.obj M x hx) ⟨rfl,rfl,rfl⟩ (λ_ _=>⟨rfl,rfl,rfl⟩) (λ_ _ h=>h) λb bT=>qo b (gZ (S.obj M x hx) bT) λe=>iK (S.sep M x b L o hx hL bT e);intro M x b hx bT;rcases jU M x hx with⟨rfl,rfl,rfl⟩|⟨_,hx⟩
  exact S.own M o b hL (rX b bT);exact S.own M x b hx bT;intro M x b M' x' hx xH bT fP;rcases jU M x hx with⟨rfl,rfl,rfl⟩|⟨_,hx2⟩<;>rcases jU M' x' xH with⟨rfl,rfl,rfl⟩|⟨_,Yu⟩
  rfl;exact S.sep M o b M' x' hL Yu (rX b bT) fP;exact S.sep M x b M' o hx2 hL bT (rX b fP);exact S.sep M x b M' x' hx2 Yu bT fP;intro M x hx N hN;rcases jU M x hx with⟨rfl,rfl,rfl⟩|⟨_,hx⟩
  obtain⟨y,hy⟩:=zN N hN;exact xB N y hy;obtain⟨y,hy⟩:=S.clO M x hx N hN;exact xB N y hy
theorem bK.write(S:bK P nt B w0 h0 g σ a w){L:Nat}{o o':AO}{w':World}(hL:lk σ.ay L=some o)(rX:∀b,gy g L o' b→gy g L o b)
    (hb:JW B w w') (qo:∀b,¬gy g L o b->w'.heap[b]? = w.heap[b]?) (hr:NS P g w' B L o') (zN:∀M∈dJ o',∃o,lk σ.ay M=some o) :
    bK P nt B w0 h0 g {σ with ay:=(L,o')::σ.ay} a w':=S.write2 hL rX hb (λb _=>qo b) hr zN
theorem JZ{L:Nat}{v:Value}:∀M,M≠L->iO g (g.setSv L v) M:=λM h=>⟨rfl,by simp[Gh.setSv,h],rfl⟩
theorem Yv{L:Nat}{v:Value}{iv:Nat->Value}:∀M,M≠L->iO g (g.setVv L v iv) M:=λM h=>⟨rfl,by simp[Gh.setVv,h],by simp[Gh.setVv,h]⟩
theorem bK.adopt(S:bK P nt B w0 h0 g σ a w){t e s b n:Nat}{get:Nat→List PV}{v:Value}(ht:lk σ.ay t=none)
    (hv:∀k,v.ownBlock=some k->B<=k/\g.h k=none/\∀L o,lk σ.ay L=some o->¬gy g L o k) (hr:BP P (g.setSv t v) w B t e s b n get) :
    bK P nt B w0 h0 (g.setSv t v) {σ with ay:=(t,.vec e s b n get)::σ.ay} a w:=by
  have iK:∀L o,lk σ.ay L=some o->L≠t:=λL o h e=>by subst e;rw[ht]at h;cases h
  have ed:∀L o,lk σ.ay L=some o->iO g (g.setSv t v) L:=λL o h=>JZ L (iK L o h);have jU:∀L o,lk ((t,AO.vec e s b n get)::σ.ay) L=some o->(L=t/\o=.vec e s b n get)\/(L≠t/\lk σ.ay L=some o):=by
    intro L o h;rw[aS]at h;split at h;rename_i e;simp at h;exact .inl ⟨e.symm,h.symm⟩;rename_i e;exact .inr ⟨λe'=>e e'.symm,h⟩
  have TL:(g.setSv t v).sv t=v:=by simp[Gh.setSv]
  have gU:∀L o k,lk σ.ay L=some o->gy (g.setSv t v) L o k->gy g L o k:=λL o k ho h=>by rw[fV (ed L o ho)]at h;exact h
  refine S.change (g':=g.setSv t v) ed (λ_ _ h=>h) S.hw (λb o h=>.inl h) (.refl _ B w) ?_ ?_ ?_ ?_ ?_;intro L o ho;rcases jU L o ho with⟨rfl,rfl⟩|⟨_,ho⟩
  exact hr;exact jH (S.obj L o ho) (ed L o ho) (λM hM=>by obtain⟨o',kN⟩:=S.clO L o ho M hM;exact ed M o' kN) (λ_ _ h=>h) λ_ _=>rfl;intro L o k ho hk;rcases jU L o ho with⟨rfl,rfl⟩|⟨_,ho⟩
  simp only[gy,TL]at hk;exact⟨(hv k hk).1,(hv k hk).2.1⟩;exact S.own L o k ho (gU L o k ho hk);intro L o k L' o' ho kN hk je;rcases jU L o ho with⟨rfl,rfl⟩|⟨_,pz⟩<;>rcases jU L' o' kN with⟨rfl,rfl⟩|⟨_,mZ⟩
  rfl;simp only[gy,TL]at hk;exact((hv k hk).2.2 L' o' mZ (gU _ _ _ mZ je)).elim;simp only[gy,TL]at je;exact((hv k je).2.2 L o pz (gU _ _ _ pz hk)).elim;exact S.sep L o k L' o' pz mZ (gU _ _ _ pz hk) (gU _ _ _ mZ je);intro L o ho;refine⟨o,?_⟩;rw[aS,dM (λe=>iK L o ho e.symm)];exact ho;intro L o ho M hM;rcases jU L o ho with⟨rfl,rfl⟩|⟨_,ho⟩
  simp[dJ]at hM;obtain⟨o',kN⟩:=S.clO L o ho M hM;exact⟨o',by rw[aS,dM (λe=>iK M o' kN e.symm)];exact kN⟩
end
end Go.Pm
namespace Go.Pm
variable [aG]
open Go.RowKit (Below)
abbrev lY:=List (Nat×AO)
abbrev O3(s:Nat)(ln:Nat->Nat)(get:Nat->Nat->List PV):Nat->List PV:=λi=>[.sl (ln i) s (get i)]
def zaD(ob:Nat->Option AO)(u:lY)(L:Nat)(o':AO):Prop :=
 (∃e s b n get,ob L=some (.vec e s b n get)/\o'=.fvec s n get) \/
 (∃ty cells l us,ob L=some (.box ty cells)/\o'=.fbox l/\nz ob cells=some (l,us)/\∀x∈us,x∈u) \/
 (∃te bb e s b n ln get,ob L=some (.vv te bb e s b n ln get)/\o'=.fvec 1 n (O3 s ln get))
theorem zaD.mono{ob:Nat->Option AO}{u u':lY}{L:Nat}{o':AO}(h:zaD ob u L o')(hu:∀x∈u,x∈u'):zaD ob u' L o':=by
 rcases h with h|⟨ty,cells,l,us,h1,h2,h3,h4⟩|h
 exact .inl h;exact .inr (.inl ⟨ty,cells,l,us,h1,h2,h3,λx hx=>hu x (h4 x hx)⟩);exact .inr (.inr h)
def dY(ob:Nat->Option AO)(u:lY):Prop:=∀x∈u,zaD ob u x.1 x.2
theorem dY.append{ob:Nat->Option AO}{u u':lY}(h:dY ob u)(h':dY ob u'):dY ob (u++u'):=by
 intro x hx;rcases dG.1 hx with hx|hx
 exact(h x hx).mono λy hy=>dG.2 (.inl hy);exact(h' x hx).mono λy hy=>dG.2 (.inr hy)
theorem dY.nil(ob:Nat->Option AO):dY ob []:=λx hx=>by simp at hx
section
variable{ob:Nat->Option AO}
theorem QF{c:Cl}{v:PV}{u:lY}(h:zx ob c=some (v,u)):dY ob u:=by
 unfold zx at h;split at h;simp only[bG,fJ]at h;rw[<- h.2];exact dY.nil ob;split at h;rename_i e s b n get hL;simp at h;rw[<- h.2];intro x hx;simp at hx;subst hx;exact .inl ⟨_,_,_,_,_,hL,rfl⟩;simp only[bG,fJ]at h;rw[<- h.2];exact dY.nil ob;rename_i te bb e s b n ln get hL;simp only[bG,fJ]at h;rw[<- h.2];intro x hx;simp only[kK]at hx;subst hx;exact .inr (.inr ⟨_,_,_,_,_,_,_,_,hL,rfl⟩);cases h;cases h
theorem J3:∀{cs:List Cl}{l:List PV}{u:lY},jg ob cs=some (l,u)→dY ob u
  | [],l,u,h=>by simp[jg]at h;rw[h.2];exact dY.nil ob
  | c::cs,l,u,h=>by
    simp only[jg]at h;split at h;rename_i v u1 l2 u2 h1 h2;simp at h;rw[<- h.2];exact(QF h1).append (J3 h2);cases h
theorem zu1{c:Cl}{x:PV×lY}(h:zx ob c=some x):NY ob c=some x:=by
 cases c<;>first|exact h|cases h
theorem QG:∀{cs:List Cl}{x:List PV×lY},jg ob cs=some x→nz ob cs=some x
  | [],x,h=>h
  | c::cs,x,h=>by
    simp only[jg]at h;split at h;rename_i v u1 l2 u2 h1 h2;simp only[nz,zu1 h1,QG h2];exact h;cases h
theorem zmt{c:Cl}{v:PV}{u:lY}(h:NY ob c=some (v,u)):dY ob u:=by
 unfold NY at h;split at h;split at h;rename_i L off ty cells hL;split at h;rename_i l us hl;simp at h;rw[<- h.2];intro x hx;rcases dG.1 hx with hx|hx
 exact(J3 hl x hx).mono λy hy=>dG.2 (.inl hy);simp at hx;subst hx;exact .inr (.inl ⟨_,_,_,_,hL,rfl,QG hl,λy hy=>dG.2 (.inl hy)⟩);cases h;simp only[bG,fJ]at h;rw[<- h.2];exact dY.nil ob;cases h;exact QF h
theorem UA:∀{cs:List Cl}{l:List PV}{u:lY},nz ob cs=some (l,u)→dY ob u
  | [],l,u,h=>by simp[nz]at h;rw[h.2];exact dY.nil ob
  | c::cs,l,u,h=>by
    simp only[nz]at h;split at h;rename_i v u1 l2 u2 h1 h2;simp at h;rw[<- h.2];exact(zmt h1).append (UA h2);cases h
theorem zaE{c:Cl}{v:PV}{u:lY}(h:Jz ob c=some (v,u)):dY ob u:=by
 unfold Jz at h;split at h;split at h;rename_i L off ty cells hL;split at h;rename_i l us hl;simp at h;rw[<- h.2];intro x hx;rcases dG.1 hx with hx|hx
 exact(UA hl x hx).mono λy hy=>dG.2 (.inl hy);simp at hx;subst hx;exact .inr (.inl ⟨_,_,_,_,hL,rfl,hl,λy hy=>dG.2 (.inl hy)⟩);cases h;simp only[bG,fJ]at h;rw[<- h.2];exact dY.nil ob;cases h;exact QF h
theorem UB:∀{cs:List Cl}{l:List PV}{u:lY},rD ob cs=some (l,u)→dY ob u
  | [],l,u,h=>by simp[rD]at h;rw[h.2];exact dY.nil ob
  | c::cs,l,u,h=>by
    simp only[rD]at h;split at h;rename_i v u1 l2 u2 h1 h2;simp at h;rw[<- h.2];exact(zaE h1).append (UB h2);cases h
theorem Yw{c:Cl}{v:PV}{u:lY}(h:frz ob c=some (v,u)):dY ob u:=by
 unfold frz at h;split at h;split at h;rename_i l us hl;simp only[bG,fJ]at h;rw[<- h.2];exact UB hl;cases h;exact zaE h
theorem IZ:∀{cs:List Cl}{l:List PV}{u:lY},su ob cs=some (l,u)→dY ob u
  | [],l,u,h=>by simp[su]at h;rw[h.2];exact dY.nil ob
  | c::cs,l,u,h=>by
    simp only[su]at h;split at h;rename_i v u1 l2 u2 h1 h2;simp at h;rw[<- h.2];exact(Yw h1).append (IZ h2);cases h
theorem BU{d:DV}{v:PA}{u:lY}(h:zy ob d=some (v,u)):dY ob u:=by
 unfold zy at h;split at h;split at h;rename_i v' u' h1;simp at h;rw[<- h.2];exact Yw h1;cases h;split at h;rename_i v' u' h1;simp at h;rw[<- h.2];exact IZ h1;cases h;cases h
theorem xR:∀{cs:List DV}{l:List PA}{u:lY},gQ ob cs=some (l,u)→dY ob u
  | [],l,u,h=>by simp[gQ]at h;rw[h.2];exact dY.nil ob
  | c::cs,l,u,h=>by
    simp only[gQ]at h;split at h;rename_i v u1 l2 u2 h1 h2;simp at h;rw[<- h.2];exact(BU h1).append (xR h2);cases h
end
structure eQ (g : Gh) (ob : Nat → Option AO) (u : lY) (h' : Fz) : Prop where
  le:jX g.h h'
  vec:∀L e s b n get,ob L=some (.vec e s b n get)->(L,AO.fvec s n get)∈u->Rep h' (.sl n s get) (g.sv L)
  fvec:∀L s n get,ob L=some (.fvec s n get)->Rep h' (.sl n s get) (g.sv L)
  vv:∀L te bb e s b n ln get,ob L=some (.vv te bb e s b n ln get)->(L,AO.fvec 1 n (O3 s ln get))∈u->Rep h' (.sl n 1 (O3 s ln get)) (g.sv L)
  box:∀L ty cells l us,ob L=some (.box ty cells)->nz ob cells=some (l,us)->(∀x∈us,x∈u)->(L,AO.fbox l)∈u->∃C,h' (g.bk L)=some (.fz (.cells C ty (0,0)))/\RL (Rep h') l C.toList
  fbox:∀L l,ob L=some (.fbox l)->∃C ty fr,h' (g.bk L)=some (.fz (.cells C ty fr))/\RL (Rep h') l C.toList
  new:∀b,g.h b=none->∀o,h' b=some o->∃L x o',(L,o')∈u/\ob L=some x/\gy g L x b
section
variable{g:Gh}{ob:Nat->Option AO}{u:lY}{h':Fz}
theorem eQ.rep0(F:eQ g ob u h'){c:Cl}{v:PV}{us:lY}{x:Value}(h:zx ob c=some (v,us))(hu:∀y∈us,y∈u)(hc:iV g c x):Rep h' v x:=by
 unfold zx at h;split at h;simp at h;rw[<- h.1];exact Rep.mono F.le hc;split at h;rename_i L _x e s b n get hL;simp at h;rw[<- h.1];rw[<- h.2]at hu;obtain⟨rfl,_⟩:=hc;exact F.vec L e _ b n get hL (hu _ (by simp));rename_i L _x s n get hL;simp at h;rw[<- h.1];obtain⟨rfl,_⟩:=hc;exact F.fvec L _ n get hL;rename_i L _x te bb e s b n ln get hL;simp only[bG,fJ]at h;rw[<- h.1];rw[<- h.2]at hu;obtain⟨rfl,_⟩:=hc;exact F.vv L te bb e s b n ln get hL (hu _ (by simp));cases h;cases h
theorem eQ.repL0(F:eQ g ob u h'):∀{cs:List Cl}{l:List PV}{us:lY}{vs:List Value},jg ob cs=some (l,us)→(∀y∈us,y∈u)→RL (iV g) cs vs→RL (Rep h') l vs
  | [],l,us,vs,h,hu,hc=>by
    simp[jg]at h;rw[h.1];cases vs with|nil=>trivial|cons=>exact hc.elim
  | c::cs,l,us,[],h,hu,hc=>hc.elim
  | c::cs,l,us,v::vs,h,hu,hc=>by
    simp only[jg]at h;split at h;rename_i v1 u1 l2 u2 h1 h2;simp at h;rw[<- h.1];rw[<- h.2]at hu;exact⟨F.rep0 h1 (λy hy=>hu y (dG.2 (.inl hy))) hc.1,F.repL0 h2 (λy hy=>hu y (dG.2 (.inr hy))) hc.2⟩;cases h
theorem QH{h:Fz}{b:Nat}{C:Array Value}{ty:TypeId}{fr:Nat×Nat}{l:List PV}(hb:h b=some (.fz (.cells C ty fr)))(hr:RL (Rep h) l C.toList)(off:Nat) :
    Rep h (.fp l off) (.pointer (some ⟨b,off,none⟩)):=by
  have := Rep.fp (h := h) l off b 0 C ty fr (fun j => C.getD j undef) hb
    (λj x hj=>by
      obtain⟨v,hv,_⟩:=hr.get j x hj;have Ah:C[j]? = some v:=by simpa using hv
      simp[yP,Ah])
    (λj x hj=>by
      obtain⟨v,hv,hx⟩:=hr.get j x hj;have Ah:C[j]? = some v:=by simpa using hv
      simpa [yP,Ah]using hx)
  simpa using this
theorem eQ.repA(F:eQ g ob u h'){c:Cl}{v:PV}{us:lY}{x:Value}(h:Jz ob c=some (v,us))(hu:∀y∈us,y∈u)(hc:iV g c x):Rep h' v x:=by
 unfold Jz at h;split at h;split at h;rename_i L off _x ty cells hL;split at h;rename_i l us' hl;simp at h;rw[<- h.1];rw[<- h.2]at hu;obtain⟨C,hC,hr⟩:=F.box L ty cells l us' hL hl (λy hy=>hu y (dG.2 (.inl hy))) (hu _ (by simp));simp only[iV]at hc;rw[hc];exact QH hC hr off;cases h;rename_i L off _x l hL;simp at h;rw[<- h.1];obtain⟨C,ty,fr,hC,hr⟩:=F.fbox L l hL;simp only[iV]at hc;rw[hc];exact QH hC hr off;cases h;exact F.rep0 h hu hc
theorem eQ.repAL(F:eQ g ob u h'):∀{cs:List Cl}{l:List PV}{us:lY}{vs:List Value},rD ob cs=some (l,us)→(∀y∈us,y∈u)→RL (iV g) cs vs→RL (Rep h') l vs
  | [],l,us,vs,h,hu,hc=>by
    simp[rD]at h;rw[h.1];cases vs with|nil=>trivial|cons=>exact hc.elim
  | c::cs,l,us,[],h,hu,hc=>hc.elim
  | c::cs,l,us,v::vs,h,hu,hc=>by
    simp only[rD]at h;split at h;rename_i v1 u1 l2 u2 h1 h2;simp at h;rw[<- h.1];rw[<- h.2]at hu;exact⟨F.repA h1 (λy hy=>hu y (dG.2 (.inl hy))) hc.1,F.repAL h2 (λy hy=>hu y (dG.2 (.inr hy))) hc.2⟩;cases h
theorem eQ.rep(F:eQ g ob u h'){c:Cl}{v:PV}{us:lY}{x:Value}(h:frz ob c=some (v,us))(hu:∀y∈us,y∈u)(hc:iV g c x):Rep h' v x:=by
 unfold frz at h;split at h;rename_i f caps;split at h;rename_i l us' hl;simp only[bG,fJ]at h;obtain⟨rfl,rfl⟩:=h;obtain⟨cv,rfl,hr⟩:=hc;have hr2:RL (iV g) (caps.map zcS) cv:=RL.map_left.2 (hr.mono λc y hy=>by
  cases c with|v p=>exact hy|b L=>exact hy)
 have hl2:=F.repAL hl hu hr2;exact .fn f [] l [] cv rfl hl2.length (λi x y hx _=>by simp at hx) (λi x y hx hy=>by obtain⟨v,hv,hr3⟩:=hl2.get i x hx;rw[hv]at hy;exact dq9 hy▸hr3);cases h;exact F.repA h hu hc
theorem eQ.repL(F:eQ g ob u h'):∀{cs:List Cl}{l:List PV}{us:lY}{vs:List Value},su ob cs=some (l,us)→(∀y∈us,y∈u)→RL (iV g) cs vs→RL (Rep h') l vs
  | [],l,us,vs,h,hu,hc=>by
    simp[su]at h;rw[h.1];cases vs with|nil=>trivial|cons=>exact hc.elim
  | c::cs,l,us,[],h,hu,hc=>hc.elim
  | c::cs,l,us,v::vs,h,hu,hc=>by
    simp only[su]at h;split at h;rename_i v1 u1 l2 u2 h1 h2;simp at h;rw[<- h.1];rw[<- h.2]at hu;exact⟨F.rep h1 (λy hy=>hu y (dG.2 (.inl hy))) hc.1,F.repL h2 (λy hy=>hu y (dG.2 (.inr hy))) hc.2⟩;cases h
theorem eQ.repD(F:eQ g ob u h'){d:DV}{v:PA}{us:lY}{x:Value}(h:zy ob d=some (v,us))(hu:∀y∈us,y∈u)(hc:qH g d x):pJ h' v x:=by
 unfold zy at h;split at h;split at h;rename_i v' u' h1;simp at h;rw[<- h.1];rw[<- h.2]at hu;exact F.rep h1 hu hc;cases h;split at h;rename_i v' u' h1;simp at h;rw[<- h.1];rw[<- h.2]at hu;obtain⟨vs,rfl,hr⟩:=hc;exact⟨vs,rfl,F.repL h1 hu hr⟩;cases h;cases h
theorem eQ.repDs(F:eQ g ob u h'):∀{ds:List DV}{l:List PA}{us:lY}{vs:List Value},gQ ob ds=some (l,us)→(∀y∈us,y∈u)→RL (qH g) ds vs→RL (pJ h') l vs
  | [],l,us,vs,h,hu,hc=>by
    simp[gQ]at h;rw[h.1];cases vs with|nil=>trivial|cons=>exact hc.elim
  | c::cs,l,us,[],h,hu,hc=>hc.elim
  | c::cs,l,us,v::vs,h,hu,hc=>by
    simp only[gQ]at h;split at h;rename_i v1 u1 l2 u2 h1 h2;simp at h;rw[<- h.1];rw[<- h.2]at hu;exact⟨F.repD h1 (λy hy=>hu y (dG.2 (.inl hy))) hc.1,F.repDs h2 (λy hy=>hu y (dG.2 (.inr hy))) hc.2⟩;cases h
end
theorem eU{α:Type}{l:List (Nat×α)}{n:Nat}{a:α}(h:lk l n=some a):(n,a)∈l:=by
 induction l with
 | nil=>simp[lk]at h
 | cons x l ih =>
  obtain⟨k,y⟩:=x;rw[aS]at h;split at h;rename_i e;simp at h;subst h;subst e;exact jM;exact jB _ (ih h)
theorem QI{α:Type}{l:List (Nat×α)}{n:Nat}(h:lk l n=none):∀a,(n,a)∉l:=by
 induction l with
 | nil=>intro a h;simp at h
 | cons x l ih =>
  obtain⟨k,y⟩:=x;rw[aS]at h;split at h;cases h;rename_i e;intro a ha;rcases jW.1 ha with h1|h1
  simp at h1;exact e h1.1.symm;exact ih h a h1
theorem xU{g:Gh}{w:World}{B e s n:Nat}{v:Value}{get:Nat→List PV}{h':Fz}{xs:List Value}(hu:tX get)(hs:0<s)(hx:w.ownsRow B e s v n xs)
    (hr:∀i,i<n->RL (Rep g.h) (get i) ((xs.drop (i*s)).take s)) (hle:jX g.h h') (hb:∀k,v.ownBlock=some k->h' k=(w.heap[k]?).map .fz):Rep h' (.sl n s get) v:=by
  rcases hx.2 with⟨h1,rfl⟩|⟨k,cap,cur,h1,hB,hg,hn,jV,jw,htk⟩
  rw[h1];exact .sl0 s get hu;rw [h1]at hb ⊢;have hk:=hb k rfl;rw[hg]at hk;simp only[OL]at hk;have hlen:∀i,i<n->(get i).length=s:=by
    intro i hi;rw[(hr i hi).length];simp only[qdC,qdD,hx.1];have:i*s+s<=n*s:=by have:=Qs s (qdf hi);rw[Qv]at this;exact this
    omega
  have qW:∀i j x,i<n->(get i)[j]? = some x->∃v,cur[i*s+j]? = some v/\Rep g.h x v:=by
    intro i j x hi hj;obtain⟨v,hv,xg⟩:=(hr i hi).get j x hj;refine⟨v,?_,xg⟩;have hjs:j<s:=by
      have:=(ER.1 hj).1;rw[hlen i hi]at this;exact this
    rw[IV,dH hjs,dqX,<- htk,IV]at hv;split at hv;simpa using hv;cases hv
  refine .sl n s get hu k 0 cap cur e (0,0) (λi j=>cur.getD (i*s+j) undef) hk hn hlen ?_ ?_;intro i j x hi hj;obtain⟨v,hv,_⟩:=qW i j x hi hj;rw[NR,yP,hv];rfl;intro i j x hi hj;obtain⟨v,hv,xg⟩:=qW i j x hi hj;simp only[yP,hv,qdI];exact xg.mono hle
theorem zmu{P:Program}{g:Gh}{w:World}{B L e s b n:Nat}{get:Nat→List PV}{h':Fz}(hv:BP P g w B L e s b n get)(hle:jX g.h h')
    (hb:∀k,(g.sv L).ownBlock=some k->h' k=(w.heap[k]?).map .fz):Rep h' (.sl n s get) (g.sv L):=by
  obtain⟨hs,_,xs,hx,hr⟩:=hv;exact xU hs.1 hs.2 hx hr hle hb
theorem zu3{P:Program}{g:Gh}{w:World}{B L te bb e s b n:Nat}{ln:Nat→Nat}{get:Nat→Nat→List PV}{h':Fz}(hv:vvR P g w B L te bb e s b n ln get)(hle:jX g.h h')
    (hb:∀k,gy g L (.vv te bb e s b n ln get) k->h' k=(w.heap[k]?).map .fz):Rep h' (.sl n 1 (O3 s ln get)) (g.sv L):=by
  obtain⟨hs,_,_,h4,h5,_⟩:=hv;refine xU (g:=⟨h',g.bk,g.sv,g.iv⟩) (λi j=>⟨tX.sl (λk l=>hs.1 i k j l) _ _ _,trivial⟩) (by decide) h4 ?_ (λ_ _ h=>h) λk hk=>hb k (.inl hk);intro i hi;have e1:(((List.range n).map (g.iv L)).drop (i*1)).take 1=[g.iv L i]:=by
    apply dq5;intro j;rw[IV];cases j with|zero=>simp[hi]|succ j=>simp
  rw[e1];obtain⟨_,_,xs,hx,hr⟩:=h5 i hi;exact⟨xU (λj k=>hs.1 i j i k) hs.2 hx hr hle λk hk=>hb k (.inr ⟨i,hi,hk⟩),trivial⟩
open Classical in
theorem bK.freeze{P:Program}{nt B:Nat}{w0:World}{h0:Fz}{g:Gh}{σ:St}{a:Act}{w:World}(S:bK P nt B w0 h0 g σ a w){u:lY}(hu:dY (lk σ.ay) u) :
  ∃h',bK P nt B w0 h0 ⟨h',g.bk,g.sv,g.iv⟩ {σ with ay:=u++σ.ay} a w/\eQ g (lk σ.ay) u h':=by
 let inU:Nat->Prop:=λb=>∃L o o',(L,o')∈u/\lk σ.ay L=some o/\gy g L o b;let h':Fz:=λb=>if inU b then(w.heap[b]?).map .fz else g.h b;have hle:jX g.h h':=by
  intro b o hb;show(if inU b then(w.heap[b]?).map .fz else g.h b)=some o;split;rename_i h;obtain⟨L,x,o',_,hL,bT⟩:=h;rw[(S.own L x b hL bT).2]at hb;cases hb;exact hb
 have Ye:∀b,inU b->h' b=(w.heap[b]?).map .fz:=λb hb=>dH hb;have EI:∀b,¬inU b->h' b=g.h b:=λb hb=>dM hb;have F1:∀L e s b n get,lk σ.ay L=some (.vec e s b n get)->(L,AO.fvec s n get)∈u->Rep h' (.sl n s get) (g.sv L):=by
  intro L e s b n get hL hm;exact zmu (S.obj L _ hL) hle λk hk=>Ye k ⟨L,_,_,hm,hL,hk⟩
 have F3:∀L te bb e s b n ln get,lk σ.ay L=some (.vv te bb e s b n ln get)->(L,AO.fvec 1 n (O3 s ln get))∈u->Rep h' (.sl n 1 (O3 s ln get)) (g.sv L):=by
  intro L te bb e s b n ln get hL hm;exact zu3 (S.obj L _ hL) hle λk hk=>Ye k ⟨L,_,_,hm,hL,hk⟩
 have F2:∀L s n get,lk σ.ay L=some (.fvec s n get)->Rep h' (.sl n s get) (g.sv L):=λL s n get hL=>Rep.mono hle (S.obj L _ hL).1;have F0:eQ g (lk σ.ay) u h':=by
  have Fpre:∀{cs:List Cl}{l:List PV}{us:lY}{vs:List Value},jg (lk σ.ay) cs=some (l,us)->(∀y∈us,y∈u)->RL (iV g) cs vs->RL (Rep h') l vs:=by
   intro cs
   induction cs with
   | nil =>
    intro l us vs h _ hc;simp[jg]at h;rw[h.1];cases vs with|nil=>trivial|cons=>exact hc.elim
   | cons c cs ih =>
    intro l us vs h Qm hc;cases vs with
    | nil=>exact hc.elim
    | cons v vs =>
     simp only[jg]at h;split at h;rename_i v1 u1 l2 u2 h1 h2;simp at h;rw[<- h.1];rw[<- h.2]at Qm;refine⟨?_,ih h2 (λy hy=>Qm y (dG.2 (.inr hy))) hc.2⟩;have hu1:∀y∈u1,y∈u:=λy hy=>Qm y (dG.2 (.inl hy));have EH:=hc.1;unfold zx at h1;split at h1;simp at h1;rw[<- h1.1];exact Rep.mono hle EH;split at h1;rename_i L _x e s b n get hL;simp at h1;rw[<- h1.1];rw[<- h1.2]at hu1;obtain⟨rfl,_⟩:=EH;exact F1 L e _ b n get hL (hu1 _ (by simp));rename_i L _x s n get hL;simp at h1;rw[<- h1.1];obtain⟨rfl,_⟩:=EH;exact F2 L _ n get hL;rename_i L _x te bb e s b n ln get hL;simp only[bG,fJ]at h1;rw[<- h1.1];rw[<- h1.2]at hu1;obtain⟨rfl,_⟩:=EH;exact F3 L te bb e s b n ln get hL (hu1 _ (by simp));cases h1;cases h1;cases h
  have Fbox:∀L l,lk σ.ay L=some (.fbox l)->∃C ty fr,h' (g.bk L)=some (.fz (.cells C ty fr))/\RL (Rep h') l C.toList:=by
   intro L l hL;obtain⟨C,ty,fr,hC,hr⟩:=S.obj L _ hL;exact⟨C,ty,fr,hle _ _ hC,hr.mono λ_ _=>Rep.mono hle⟩
  have FpreB:∀{cs:List Cl}{l:List PV}{us:lY}{vs:List Value},nz (lk σ.ay) cs=some (l,us)->(∀y∈us,y∈u)->RL (iV g) cs vs->RL (Rep h') l vs:=by
   intro cs
   induction cs with
   | nil =>
    intro l us vs h _ hc;simp[nz]at h;rw[h.1];cases vs with|nil=>trivial|cons=>exact hc.elim
   | cons c cs ih =>
    intro l us vs h Qm hc;cases vs with
    | nil=>exact hc.elim
    | cons v vs =>
     simp only[nz]at h;split at h;rename_i v1 u1 l2 u2 h1 h2;simp at h;rw[<- h.1];rw[<- h.2]at Qm;refine⟨?_,ih h2 (λy hy=>Qm y (dG.2 (.inr hy))) hc.2⟩;have hu1:∀y∈u1,y∈u:=λy hy=>Qm y (dG.2 (.inl hy));have EH:=hc.1;have low:zx (lk σ.ay) c=some (v1,u1)->Rep h' v1 v:=λh0=>(Fpre (cs:=[c]) (l:=[v1]) (us:=u1) (vs:=[v]) (by simp[jg,h0]) hu1 ⟨EH,trivial⟩).1;unfold NY at h1;split at h1;split at h1;rename_i L off _x ty cells hL;split at h1;rename_i l' us' hl;simp at h1;rw[<- h1.1];rw[<- h1.2]at hu1;obtain⟨C,hC,hr⟩:=S.obj L _ hL;have hm:(L,AO.fbox l')∈u:=hu1 _ (by simp);have hk:h' (g.bk L)=some (.fz (.cells C ty (0,0))):=by
      rw[Ye (g.bk L) ⟨L,_,_,hm,hL,rfl⟩,hC];rfl
     simp only[iV]at EH;rw[EH];exact QH hk (Fpre hl (λy hy=>hu1 y (dG.2 (.inl hy))) hr) off;cases h1;rename_i L off _x l' hL;simp at h1;rw[<- h1.1];obtain⟨C,ty,fr,hC,hr⟩:=Fbox L l' hL;simp only[iV]at EH;rw[EH];exact QH hC hr off;cases h1;exact low h1;cases h
  refine⟨hle,F1,F2,F3,?_,?_,λb hb o ho=>?_⟩
  rotate_left 2
  by_cases h:inU b;obtain⟨L,x,o',h1,h2,h3⟩:=h;exact⟨L,x,o',h1,h2,h3⟩;rw[EI b h,hb]at ho;cases ho;intro L ty cells l us hL hl Qm hm;obtain⟨C,hC,hr⟩:=S.obj L _ hL;refine⟨C,?_,FpreB hl Qm hr⟩;rw[Ye (g.bk L) ⟨L,_,_,hm,hL,rfl⟩,hC];rfl;exact Fbox
 refine⟨h',?_,F0⟩;have jU:∀L o,lk (u++σ.ay) L=some o->((L,o)∈u)\/((∀o',(L,o')∉u)/\lk σ.ay L=some o):=by
  intro L o h;rw[gX]at h;cases hL:lk u L with|some x=>simp only[hL]at h;simp at h;subst h;exact .inl (eU hL)|none=>simp only[hL]at h;exact .inr ⟨QI hL,h⟩
 have hfr:∀L o b,(L,o)∈u->¬gy (⟨h',g.bk,g.sv,g.iv⟩:Gh) L o b:=by
  intro L o b h;rcases hu _ h with⟨e,s,b,n,get,_,h2⟩|⟨ty,cells,l,us,_,h2,_⟩|⟨te,bb,e,s,b,n,ln,get,_,h2⟩<;>(simp only at h2;rw[h2];exact id)
 have gU:∀L o,gy (⟨h',g.bk,g.sv,g.iv⟩:Gh) L o=gy g L o:=λL o=>fV (g:=g) (g':=⟨h',g.bk,g.sv,g.iv⟩) ⟨rfl,rfl,rfl⟩;have xB:∀L o,lk σ.ay L=some o->∃o',lk (u++σ.ay) L=some o':=by
  intro L o h;rw[gX];cases lk u L with|some x=>exact⟨x,rfl⟩|none=>exact⟨o,h⟩
 refine S.change (g':=⟨h',g.bk,g.sv,g.iv⟩) (λ_ _ _=>⟨rfl,rfl,rfl⟩) hle ?_ ?_ (.refl _ B w) ?_ ?_ ?_ xB ?_;intro b o hb;have lS:h' b=some o:=hb;by_cases h:inU b;rw [Ye b h]at lS;obtain⟨x,hx,rfl⟩:=Yh.1 lS;exact⟨x,hx,rfl⟩;rw[EI b h]at lS;exact S.hw b o lS;intro b o hb;by_cases h:inU b;obtain⟨L,x,o',hm,hL,bT⟩:=h;exact .inr (S.own L x b hL bT).1;have lS:h' b=some o:=hb;rw[EI b h]at lS;exact .inl lS;intro L o ho;rcases jU L o ho with hm|⟨hn,ho⟩
 rcases hu _ hm with⟨e,s,b,n,get,h1,h2⟩|⟨ty,cells,l,us,h1,h2,h3,h4⟩|⟨te,bb,e,s,b,n,ln,get,h1,h2⟩
 simp only at h1 h2;rw [h2];rw [h2]at hm;refine⟨F0.vec L e s b n get h1 hm,?_⟩;obtain⟨_,_,xs,hx,_⟩:=S.obj L _ h1;intro x m c hv;show x.off=0;have Ah:g.sv L=.slice (some x) m c:=hv;rcases hx.2 with⟨h5,_⟩|⟨k,cap,cur,h5,_⟩
 rw[h5]at Ah;simp at Ah;rw[h5]at Ah;simp at Ah;rw[<- Ah.1];simp only at h1 h2;rw [h2];rw [h2]at hm;obtain⟨C,hC,hr⟩:=F0.box L ty cells l us h1 h3 h4 hm;exact⟨C,ty,(0,0),hC,hr⟩;simp only at h1 h2;rw [h2];rw [h2]at hm;refine⟨F0.vv L te bb e s b n ln get h1 hm,?_⟩;obtain⟨_,_,_,hx,_⟩:=S.obj L _ h1;intro x m c hv;show x.off=0;have Ah:g.sv L=.slice (some x) m c:=hv;rcases hx.2 with⟨h5,_⟩|⟨k,cap,cur,h5,_⟩
 rw[h5]at Ah;simp at Ah;rw[h5]at Ah;simp at Ah;rw[<- Ah.1];exact jH (S.obj L o ho) ⟨rfl,rfl,rfl⟩ (λ_ _=>⟨rfl,rfl,rfl⟩) hle λ_ _=>rfl;intro L o b ho bT;rcases jU L o ho with hm|⟨hn,ho⟩
 exact(hfr L o _ hm bT).elim;rw [gU]at bT;obtain⟨h1,h2⟩:=S.own L o b ho bT;refine⟨h1,?_⟩;show h' b=none;rw[EI b ?_];exact h2;rintro⟨M,x,o',hm,hM,fP⟩;have:=S.sep L o b M x ho hM bT fP;subst this;exact hn o' hm;intro L o b L' o' ho kN bT fP;rcases jU L o ho with hm|⟨_,pz⟩
 exact(hfr L o _ hm bT).elim;rcases jU L' o' kN with hm|⟨_,mZ⟩
 exact(hfr L' o' _ hm fP).elim;rw[gU]at bT fP;exact S.sep L o b L' o' pz mZ bT fP;intro L o ho M hM;rcases jU L o ho with hm|⟨_,pz⟩
 rcases hu _ hm with⟨e,s,b,n,get,_,h2⟩|⟨ty,cells,l,us,_,h2,_⟩|⟨te,bb,e,s,b,n,ln,get,_,h2⟩<;>(simp only at h2;rw[h2]at hM;simp[dJ]at hM)
 obtain⟨x,hx⟩:=S.clO L o pz M hM;exact xB M x hx
end Go.Pm
namespace Go.Pm
variable [aG]
open Go.RowKit (Below)
def aA.safe:aA→Prop|.no=>False|.val _ _ _ _=>True|.chk _ s _ _ _=>s.p
def nJ(A:aA)(i:Nat)(dst:Option Nat)(σ σ':St):Prop :=
 match A with|.no=>False|.val fp d u kl=>σ'=σ.upd i dst fp d u kl|.chk fp _ d u kl=>σ'=σ.upd i dst fp d u kl
theorem Fa{A:aA}{lg:List (Nat×Bool)→List Nat→List (Nat×Nat×Nat)}{i:Nat}{dst:Option Nat}{K:St→Prop}{σ:St} :
  nC A lg i dst K σ↔A.safe/\∀σ',nJ A i dst σ σ'->K (σ'.relog (match A with | .val fp _ _ kl=>lg fp kl | .chk fp _ _ _ kl=>lg fp kl | .no=>[])):=by
 cases A with|no=>simp[nC,aA.safe]|val fp d u kl=>simp[nC,aA.safe,nJ]|chk fp s d u kl=>simp[nC,aA.safe,nJ]
def FR(r:Option Nat):Fence:={fn:=λ_=>True,depth:=none,alive:=false,round:=r}
theorem J4{r:Option Nat}{n:Nat}{P:Program}{f:FuncId}{args:Array Value}{w:World}{R:Ending->World->Prop}(h:Calls P f args w R):CallsIn (FR r) n P f args w R :=
 (callsIn_wide (n:=n)).2 h
section
variable{P:Program}{r:Option Nat}{n:Nat}{o:Oper}{a:Act}{w:World}{R:Act->World->Prop}{Q:Exit->Act->World->Prop}
theorem put_defers(a:Act)(dst:Option Nat)(v:Value):(a.put dst v).defers=a.defers:=by cases dst<;>rfl
theorem oW(yN:∀c,o.op ≠ .defer c){v:Value}{w':World}(h:(execOp a.eval o).run P w=.ok (.value v) w')(hR:R (a.put o.dst v) w'):o.wpIn (FR r) n P a w (λa' w'=>a'.defers=a.defers/\R a' w') Q:=by
 refine⟨λ_ _=>trivial,?_⟩;rw[Oper.semAt_eq _ _ _ yN,h,Oper.uponIn_value];exact⟨put_defers _ _ _,hR⟩
theorem I4(yN:∀c,o.op ≠ .defer c){w':World}(h:(execOp a.eval o).run P w=.ok .skip w')(hR:R (a.put o.dst undef) w'):o.wpIn (FR r) n P a w (λa' w'=>a'.defers=a.defers/\R a' w') Q:=by
 refine⟨λ_ _=>trivial,?_⟩;rw[Oper.semAt_eq _ _ _ yN,h,Oper.uponIn_skip];exact⟨put_defers _ _ _,hR⟩
theorem qI(yN:∀c,o.op ≠ .defer c){f:FuncId}{args:Array Value}{w':World}(h:(execOp a.eval o).run P w = .ok (.enter f args) w')
    (hR:Calls P f args w' λe zu=>∃v,e=.returned v/\R (a.put o.dst v) zu):o.wpIn (FR r) n P a w (λa' w'=>a'.defers=a.defers/\R a' w') Q:=by
  refine⟨λ_ _=>trivial,?_⟩;rw[Oper.semAt_eq _ _ _ yN,h,Oper.uponIn_enter];refine⟨λh=>by simp[FR]at h,(J4 hR).mono ?_⟩;rintro e zu ⟨v,rfl,hv⟩;exact⟨put_defers _ _ _,hv⟩
end
section
variable{P:Program}{nt B:Nat}{w0:World}{h0:Fz}{g:Gh}{σ:St}{a:Act}{w:World}
theorem zc5{v:Value}:qH g (OO v) v:=by
 unfold OO;split;split;rename_i l hl;exact⟨_,rfl,kE _ _ hl⟩;trivial;split;rename_i x hx;exact JY hx;trivial
theorem bK.ev(S:bK P nt B w0 h0 g σ a w)(x:Operand):qH g (dW σ.env x) (a.eval x):=by
 cases x with
 | tmp t =>
  simp only[dW];split;rename_i d hd;exact S.env t d hd;trivial
 | const v=>exact zc5
 | global k=>trivial
 | func f=>exact Rep.fn f [] [] [] [] rfl rfl (λj x v h=>by simp at h) (λj x v h=>by simp at h)
theorem vK:∀{l:List Value}{cs:List Cl},jf l=some cs→cs.flatMap aY=[]
  | [],cs,h=>by simp[jf]at h;rw[h];rfl
  | v::r,cs,h=>by
    simp only[jf]at h;split at h;rename_i x l hx hl;simp only[bG]at h;rw[<- h];simp[aY,vK hl];cases h
theorem zc6{v:Value}:bQ (OO v)=[]:=by
 unfold OO;split;split;rename_i l hl;exact vK hl;rfl;split;rfl;rfl
theorem bK.evLab(S:bK P nt B w0 h0 g σ a w)(x:Operand):∀L∈bQ (dW σ.env x),∃o,lk σ.ay L=some o:=by
 cases x with
 | tmp t =>
  simp only[dW];split;rename_i d hd;exact S.clE t d hd;intro L hL;simp[bQ,dw,aY]at hL
 | const v=>intro L hL;rw[show dW σ.env (.const v)=OO v from rfl,zc6]at hL;simp at hL
 | global k=>intro L hL;simp[dW,DV.junk,bQ,dw,aY]at hL
 | func f=>intro L hL;simp[dW,bQ,dw,aY]at hL
theorem dE{r:Option Nat}{n i:Nat}{o:Oper}{Q:Exit→Act→World→Prop}(S:bK P nt B w0 h0 g σ a w)(hd:dA nt o.dst=true)(yN:∀c,o.op ≠ .defer c)
    {d:DV} {v:Value} {fp:List (Nat×Bool)} {A:aA} (hA:nJ A i o.dst σ (σ.upd i o.dst fp d [] []))
    (h:(execOp a.eval o).run P w=.ok (.value v) w) (hv:qH g d v) (hl:∀L∈bQ d,∃o,lk σ.ay L=some o) :
    o.wpIn (FR r) n P a w (λa' w'=>a'.defers=a.defers/\∃g' σ',nJ A i o.dst σ σ'/\bK P nt B w0 h0 g' σ' a' w') Q :=
  oW yN h ⟨g,_,hA,by rw[fG];exact S.put hd hv hl _⟩
theorem jZ(v:PV):∀L∈bQ (.p v),∃o,lk σ.ay L=some o:=λL hL=>by simp[bQ,dw,aY]at hL
theorem J5{t:TypeId}{ag:Bool}{m b off:Nat}{C:Array Value}{ty:TypeId}{fr:Nat×Nat}{cells:List Cl}{d:D1}(hg:jb P t=some ag)(hs:oP P t=some m)
    (hb:w.heap[b]? = some (.cells C ty fr)) (o:Nat) (hc:∀(j:Nat)(x:Cl),cells[j]? = some x->∃v,C[o+j]? = some v/\iV g x v) (hr:kL ag m cells off=some d) :
    ∃v,(loadVar t ⟨b,o+off,none⟩).run P w=.ok v w/\zS g d v:=by
  cases ag with
  | true =>
    simp only[kL]at hr;split at hr;rename_i hlen;have hlen:=kY hlen;simp only[bG]at hr;subst hr;let l:=(cells.drop off).take m;have hll:l.length=m:=hlen;have key:∀(j:Nat)(x:Cl),l[j]? = some x->∃v,C[o+off+j]? = some v/\iV g x v:=by
      intro j x hj;have oM:cells[off+j]? = some x:=by
        have hjm:j<m:=by have:=(ER.1 hj).1;omega
        simp only[l,IV,dH hjm,dqX]at hj;exact hj
      obtain⟨v,hv,hx⟩:=hc (off+j) x oM;exact⟨v,by rw[qjn];exact hv,hx⟩
    let vs:=(List.range m).map λj=>C.getD (o+off+j) undef;have hvl:vs.length=m:=by simp[vs]
    have hvj:∀j,j<m->vs[j]? = some (C.getD (o+off+j) undef):=λj hj=>by simp[vs,hj]
    refine⟨.agg vs.toArray,Iw hg hs hb vs hvl ?_,vs,rfl,?_⟩;intro j v hj;have hjm:j<m:=by have:=(ER.1 hj).1;omega
    rw[hvj j hjm]at hj;simp only[bG]at hj;obtain⟨u,hu,_⟩:=key j (l[j]'omY) (by simp[hll,hjm]);rw[<- hj,hu,yP,hu];rfl;refine RL.of_get (by rw [hvl];exact hll) ?_;intro j x v hx hv;obtain⟨u,hu,hxu⟩:=key j x hx;have hjm:j<m:=by have:=(ER.1 hv).1;omega
    rw[hvj j hjm,yP,hu]at hv;simp at hv;rw[<- hv];exact hxu;cases hr
  | false =>
    simp only[kL]at hr;split at hr;rename_i x hx;simp only[bG]at hr;subst hr;obtain⟨v,hv,xg⟩:=hc off x hx;exact⟨v,wU hg hb v hv,xg⟩;cases hr
theorem J6{ag:Bool}{m off:Nat}{cells:List Cl}{d:D1}(hr:kL ag m cells off=some d):∀L∈dw d,L∈cells.flatMap aY:=by
 cases ag with
 | true =>
  simp only[kL]at hr;split at hr;simp only [bG]at hr;subst hr;intro L hL;simp only[dw,jJ]at hL ⊢;obtain⟨c,hc,hL⟩:=hL;exact⟨c,jqU (qjU hc),hL⟩;cases hr
 | false =>
  simp only[kL]at hr;split at hr;rename_i x hx;simp only[bG]at hr;subst hr;intro L hL;simp only[dw]at hL;exact jJ.2 ⟨x,Jy hx,hL⟩;cases hr
theorem nK(cells:List PV):(cells.map Cl.p).flatMap aY=[]:=by
 induction cells with|nil=>rfl|cons c r ih=>simp[aY,ih]
theorem QJ{h:Fz}{cells:List PV}{off:Nat}{v:Value}(r:Rep h (.fp cells off) v):∃b o C ty fr,v=.pointer (some ⟨b,o+off,none⟩)/\h b=some (.fz (.cells C ty fr)) /\
  ∀(j:Nat)(x:PV),cells[j]? = some x->∃v,C[o+j]? = some v/\Rep h x v:=by
 cases r with|fp _ _ b o C ty fr vs hb hc hr=>exact⟨b,o,C,ty,fr,rfl,hb,λj x hj=>⟨vs j,hc j x hj,hr j x hj⟩⟩
theorem uk{B L e s b len:Nat}{get:Nat→List PV}(hv:BP P g w B L e s b len get){i:Nat}(hi:i<len) :
  ∃k C,(g.sv L).ownBlock=some k/\(∃cap,g.sv L=.slice (some ⟨k,0,none⟩) len cap)/\w.heap[k]? = some (.cells C e (0,0))/\i*s+s<=C.size/\(get i).length=s /\
   ∀(j:Nat)(x:PV),(get i)[j]? = some x->∃v,C[i*s+j]? = some v/\Rep g.h x v:=by
 obtain⟨hs,_,xs,hx,hr⟩:=hv;rcases hx.2 with⟨_,rfl⟩|⟨k,cap,cur,h1,hB,hg,hn,jV,jw,htk⟩
 exact absurd hi omY;have hle:i*s+s≤len*s:=by have:=Qs s (qdf hi);rw [Qv]at this;exact this
 have zrN:len*s<=cap*s:=Qs s hn;have hlen:(get i).length=s:=by
  rw[(hr i hi).length];simp only[qdC,qdD,hx.1];omega
 refine⟨k,cur,by rw[h1];rfl,⟨cap,h1⟩,hg,omY,hlen,?_⟩;intro j x hj;obtain⟨v,hv,xg⟩:=(hr i hi).get j x hj;refine⟨v,?_,xg⟩;have hjs:j<s:=by have:=(ER.1 hj).1;rw[hlen]at this;exact this
 rw[IV,dH hjs,dqX,<- htk,IV]at hv;split at hv;simpa using hv;cases hv
theorem UC{B L te bb e s b n:Nat}{ln:Nat→Nat}{get:Nat→Nat→List PV}(hv:vvR P g w B L te bb e s b n ln get){i:Nat}(hi:i<n) :
  ∃k C cap,g.sv L=.slice (some ⟨k,0,none⟩) n cap/\w.heap[k]? = some (.cells C te (0,0))/\C[i]? = some (g.iv L i)/\(g.iv L i).oneCell'=true:=by
 obtain⟨_,_,_,h4,h5,_⟩:=hv;rcases h4.2 with⟨h1,h2⟩|⟨k,cap,cur,h1,hB,hg,hn,jV,jw,htk⟩
 omega;refine⟨k,cur,cap,h1,hg,?_,(h5 i hi).1⟩;have:(cur.toList.take (n*1))[i]? = ((List.range n).map (g.iv L))[i]?:=by rw[htk]
 rw[IV,dH omY]at this;simpa [hi]using this
theorem UD{B L te bb e s b n o:Nat}{ln:Nat→Nat}{get:Nat→Nat→List PV}(hv:vtR P g w B L te bb e s b n ln get o){i:Nat}(hi:i<n) :
  ∃k C cap,g.sv L=.slice (some ⟨k,0,none⟩) n cap/\w.heap[k]? = some (.cells C te (0,0))/\C[i]? = some (g.iv L i):=by
 obtain⟨_,_,_,h4,_⟩:=hv;rcases h4.2 with⟨h1,h2⟩|⟨k,cap,cur,h1,hB,hg,hn,jV,jw,htk⟩
 omega;refine⟨k,cur,cap,h1,hg,?_⟩;have:(cur.toList.take (n*1))[i]? = ((List.range n).map (g.iv L))[i]?:=by rw[htk]
 rw[IV,dH omY]at this;simpa [hi]using this
theorem QK{h:Fz}{len s:Nat}{get:Nat→List PV}{v:Value}(r:Rep h (.sl len s get) v){i:Nat}(hi:i<len) :
  ∃b o cap C ty fr,v=.slice (some ⟨b,o,none⟩) len cap/\h b=some (.fz (.cells C ty fr))/\(get i).length=s /\
   ∀(j:Nat)(x:PV),(get i)[j]? = some x->∃v,C[o+i*s+j]? = some v/\Rep h x v:=by
 cases r with|sl0=>exact absurd hi omY|sle=>exact absurd hi omY|sl _ _ _ _ b o cap C ty fr vs hb jV hlen hc hr=>exact⟨b,o,cap,C,ty,fr,rfl,hb,hlen i hi,λj x hj=>⟨vs i j,hc i j x hi hj,hr i j x hi hj⟩⟩
theorem I5{h:Fz}{b o:Nat}{C:Array Value}{ty:TypeId}{fr:Nat×Nat}{l:List PV}(hb:h b=some (.fz (.cells C ty fr)))
    (hr:∀(j:Nat)(x:PV),l[j]? = some x->∃v,C[o+j]? = some v/\Rep h x v) (off:Nat):Rep h (.fp l off) (.pointer (some ⟨b,o+off,none⟩)) :=
  Rep.fp l off b o C ty fr (fun j => C.getD (o + j) undef) hb
    (λj x hj=>by obtain⟨v,hv,_⟩:=hr j x hj;rw[yP,hv];rfl)
    (λj x hj=>by obtain⟨v,hv,hx⟩:=hr j x hj;simpa [yP,hv]using hx)
end
end Go.Pm
namespace Go.Pm
variable [aG]
open Go.RowKit (Below)
section
variable{P:Program}{Γ:bM}{nt B:Nat}{w0:World}{h0:Fz}{g:Gh}{σ:St}{a:Act}{w:World}{r:Option Nat}{n i:Nat}{Q:Exit->Act->World->Prop}
def iZ(P:Program)(nt B:Nat)(w0:World)(h0:Fz)(r:Option Nat)(n i:Nat)(o:Oper)(A:aA)(σ:St)(a:Act)(w:World)(Q:Exit->Act->World->Prop):Prop :=
 o.wpIn (FR r) n P a w (λa' w'=>a'.defers=a.defers/\∃g' σ',nJ A i o.dst σ σ'/\bK P nt B w0 h0 g' σ' a' w') Q
theorem ig{x:Operand}{c:Cl}(S:bK P nt B w0 h0 g σ a w)(h:dW σ.env x=.one (.c c)):iV g c (a.eval x)/\∀L∈aY c,∃o,lk σ.ay L=some o:=by
 have h1:=S.ev x;have h2:=S.evLab x;rw[h]at h1 h2;exact⟨h1,h2⟩
theorem jl{x:Operand}{v:PV}(S:bK P nt B w0 h0 g σ a w)(h:dW σ.env x=.one (.c (.p v))):Rep g.h v (a.eval x):=(ig S h).1
theorem jR{x:Operand}{k:IntKind}{m:Int}(S:bK P nt B w0 h0 g σ a w)(h:dW σ.env x=.one (.c (.p (.int k m)))):a.eval x=.int k m:=by
 have:=jl S h;generalize a.eval x=v at this;cases this;rfl
theorem um{x:Operand}{m:Bool}(S:bK P nt B w0 h0 g σ a w)(h:dW σ.env x=.one (.c (.p (.bool m)))):a.eval x=.bool m:=by
 have:=jl S h;generalize a.eval x=v at this;cases this;rfl
theorem UE{o:Oper}{x:Operand}(S:bK P nt B w0 h0 g σ a w)(hd:dA nt o.dst=true)(aU:o.op = .move x∨o.op = .assign x) :
  iZ P nt B w0 h0 r n i o (.val [] (dW σ.env x) [] []) σ a w Q:=by
 refine dE S hd (by rcases aU with h|h<;>simp[h]) (d:=dW σ.env x) (v:=a.eval x) (fp:=[]) rfl ?_ (S.ev x) (S.evLab x);rcases aU with h|h<;>simp[execOp,h]
theorem UF{b:Bool}{x y:DV}{v u:Value}(h1:qH g x v)(h2:qH g y u):qH g (zQ b x y) (if b=true then v else u):=by
 unfold zQ;split;rename_i p q;have e1:v=.bool p:=by cases h1;rfl
 have e2:u=.bool q:=by cases h2;rfl
 subst e1 e2;cases b<;>exact Rep.bool _;cases b;simpa using h2;simpa using h1
theorem zc7{b:Bool}{x y:DV}:∀L∈bQ (zQ b x y),L∈bQ x\/L∈bQ y:=by
 unfold zQ;split;intro L hL;simp[bQ,dw,aY]at hL;intro L hL;cases b;exact .inr hL;exact .inl hL
theorem zgd{o:Oper}{c x y:Operand}(S:bK P nt B w0 h0 g σ a w)(hd:dA nt o.dst=true)(aU:o.op = .pick c x y){t:Bool}(hc:dW σ.env c = .one (.c (.p (.bool t)))) :
  iZ P nt B w0 h0 r n i o (.val [] (zQ t (dW σ.env x) (dW σ.env y)) [] []) σ a w Q:=by
 have hb:=um S hc;refine dE S hd (by simp[aU]) (d:=zQ t (dW σ.env x) (dW σ.env y)) (v:=if t=true then a.eval x else a.eval y) (fp:=[]) rfl ?_ (UF (S.ev x) (S.ev y)) ?_;simp[execOp,aU,asBool,hb];intro L hL;rcases zc7 L hL with h|h
 exact S.evLab x L h;exact S.evLab y L h
theorem J7(e:TypeId)(v:Value):(newVar e v).run P w=.ok ⟨w.heap.size,0,none⟩ (w.alloc (.cells v.cells e)):=by
 simp[newVar,newRow]
theorem zaF{o:Oper}{A:aA}{e:Nat}{cs:List Cl}{v:Value}(S:bK P nt B w0 h0 g σ a w)(hd:dA nt o.dst=true)(yN:∀c,o.op ≠ .defer c)
    (hA:EW (lk σ.ay) o.dst (.box e cs) (λt=>.cl (.ptr t 0))=A) (hs:A.safe)
    (cu:(execOp a.eval o).run P w=.ok (.value (.pointer (some ⟨w.heap.size,0,none⟩))) (w.alloc (.cells v.cells e)))
    (hv:RL (iV g) cs v.cells.toList) (hl:∀L∈cs.flatMap aY,∃o,lk σ.ay L=some o):iZ P nt B w0 h0 r n i o A σ a w Q:=by
  unfold EW at hA;split at hA;rename_i t ht;split at hA;rename_i jU;subst hA;have S':=S.newBox (ty:=e) jU hv hl;refine oW yN cu ⟨g.setBk t w.heap.size,_,rfl,?_⟩;rw[fG];refine S'.put (σ:={σ with ay:=(t,AO.box e cs)::σ.ay}) hd (d:=.cl (.ptr t 0)) ?_ ?_ _;simp[qH,zS,iV,Gh.setBk];intro L hL;simp[bQ,dw,aY]at hL;subst hL;exact⟨_,by rw[aS,dH rfl]⟩;subst hA;exact hs.elim;subst hA;exact hs.elim
theorem UG{l:List Value}{cs:List Cl}(h:jf l=some cs)(L:Nat)(hL:L∈cs.flatMap aY):False:=by
 rw[vK h]at hL;simp at hL
theorem zc8{o:Oper}{A:aA}{e:Nat}{z:List Cl}(S:bK P nt B w0 h0 g σ a w)(hd:dA nt o.dst=true)(aU:o.op = .alloc e)(hz:gu P e=some z)
    (hA:EW (lk σ.ay) o.dst (.box e z) (λt=>.cl (.ptr t 0))=A) (hs:A.safe):iZ P nt B w0 h0 r n i o A σ a w Q:=by
  obtain⟨ii,v,hi,Gx,hl,_⟩:=lF hz;refine zaF S hd (by simp[aU]) hA hs (v:=v) ?_ (kE _ _ hl) (λL hL=>(UG hl L hL).elim);simp only[execOp,aU,Instr.alloc,Sem.run_bind,kU hi Gx,Result.andThen_ok,J7,Sem.run_pure]
theorem zmv{o:Oper}{A:aA}{e:Nat}{x:Operand}{d:D1}(S:bK P nt B w0 h0 g σ a w)(hd:dA nt o.dst=true)(aU:o.op = .box e x)(hx:dW σ.env x = .one d)
    (fK:d.cells.all BI=true) (hA:EW (lk σ.ay) o.dst (.box e d.cells) (λt=>.cl (.ptr t 0))=A) (hs:A.safe):iZ P nt B w0 h0 r n i o A σ a w Q:=by
  have h1:=S.ev x;have h2:=S.evLab x;rw[hx]at h1 h2;refine zaF S hd (by simp[aU]) hA hs (v:=a.eval x) ?_ (ui h1 fK) ?_;simp only[execOp,aU,Instr.box,Sem.run_bind,J7,Result.andThen_ok,Sem.run_pure]
  · intro L hL;refine h2 L ?_;cases d with|c y=>simpa [D1.cells,bQ,dw]using hL|agg cs=>simpa [D1.cells,bQ,dw]using hL
theorem zc9{o:Oper}{t:Nat}{parts:Array (Nat×Operand)}{z l:List Cl}(S:bK P nt B w0 h0 g σ a w)(hd:dA nt o.dst=true)(aU:o.op = .build t parts)
    (hf:xI P t=true) (hz:gu P t=some z) (hb:gY P t (dW σ.env) z parts.toList=some l) (hl:∀L∈l.flatMap aY,∃o,lk σ.ay L=some o) :
    iZ P nt B w0 h0 r n i o (.val [] (.one (.agg l)) [] []) σ a w Q:=by
  obtain⟨v,cu,hv⟩:=run_build (P:=P) (w:=w) (g:=g) (ρ:=a.eval) (ev:=dW σ.env) (λx=>S.ev x) hf hz hb;refine dE S hd (by simp[aU]) (d:=.one (.agg l)) (v:=v) (fp:=[]) rfl ?_ hv hl;simp only[execOp,aU,Sem.run_bind,cu,Result.andThen_ok,Sem.run_pure]
theorem zaG{cs l:List Cl}(off:Nat):∀L∈(spl cs off l).flatMap aY,L∈cs.flatMap aY\/L∈l.flatMap aY:=by
 induction l generalizing cs off with
 | nil=>intro L hL;exact .inl hL
 | cons x l ih =>
  intro L hL;rw[spl]at hL;rcases ih (off+1) L hL with h|h
  simp only [jJ]at h;obtain⟨c,hc,hL2⟩:=h;rcases dq3 hc with h|h
  exact .inl (jJ.2 ⟨c,h,hL2⟩);subst h;exact .inr (by simp only[lX,dG];exact .inl hL2);exact .inr (by simp only[lX,dG];exact .inr h)
theorem J8{ev:Operand->DV}{t:TypeId}:∀(parts:List (Nat×Operand))(z l:List Cl),gY P t ev z parts=some l ->
  ∀L∈l.flatMap aY,L∈z.flatMap aY\/∃x∈parts,L∈bQ (ev x.2)
 | [],z,l,h=>by simp[gY]at h;subst h;exact λL hL=>.inl hL
 | (i,o)::r,z,l,h=>by
  simp only[gY]at h;cases he:ev o with
  | tup ds=>simp[he]at h
  | one d =>
   simp only[he]at h;have step:∀off,gY P t ev (spl z off d.cells) r=some l->∀L∈l.flatMap aY,L∈z.flatMap aY\/∃x∈(i,o)::r,L∈bQ (ev x.2):=by
    intro off hb L hL;rcases J8 r _ l hb L hL with h|⟨x,hx,hL⟩
    rcases zaG off L h with h|h
    exact .inl h
    ·refine .inr ⟨(i,o),jM,?_⟩;simp only[he,bQ];cases d with|c y=>simpa [D1.cells,dw]using h|agg cs=>simpa [D1.cells,dw]using h
    exact .inr ⟨x,jB _ hx,hL⟩
   split at h;split at h;split at h;split at h;exact step _ h;cases h;cases h;cases h;split at h;split at h;exact step _ h;cases h;cases h;cases h
theorem O4{t:TypeId}{z:List Cl}(h:gu P t=some z):z.flatMap aY=[]:=by
 obtain⟨_,v,_,_,hl,_⟩:=lF h;exact vK hl
theorem xW{o:Oper}{t:TypeId}{x:Operand}{A:aA}{fp:List (Nat×Bool)}{ag:Bool}{m b off o':Nat}{C:Array Value}{ty:TypeId}{fr:Nat×Nat}{cells:List Cl}{d:D1}
    (S:bK P nt B w0 h0 g σ a w) (hd:dA nt o.dst=true) (aU:o.op=.load t x) (hA:nJ A i o.dst σ (σ.upd i o.dst fp (.one d) [] [])) (hg:jb P t=some ag) (hs:oP P t=some m)
    (hx:a.eval x=.pointer (some ⟨b,o'+off,none⟩)) (hb:w.heap[b]? = some (.cells C ty fr))
    (hc:∀(j:Nat)(x:Cl),cells[j]? = some x->∃v,C[o'+j]? = some v/\iV g x v) (hr:kL ag m cells off=some d)
    (hl:∀L∈cells.flatMap aY,∃o,lk σ.ay L=some o):iZ P nt B w0 h0 r n i o A σ a w Q:=by
  obtain⟨v,cu,hv⟩:=J5 hg hs hb o' hc hr;refine dE S hd (by simp[aU]) (d:=.one d) (v:=v) (fp:=fp) hA ?_ hv (λL hL=>hl L (J6 hr L hL));simp only[execOp,aU,Sem.run_bind,Instr.loadAt,hx,Instr.sureAddr,Sem.run_pure,Result.andThen_ok,cu]
theorem zge{o:Oper}{t:TypeId}{x:Operand}{A:aA}(S:bK P nt B w0 h0 g σ a w)(hd:dA nt o.dst=true)(aU:o.op = .load t x)
    (hA:act P Γ o (dW σ.env) (lk σ.ay)=A) (hs:A.safe):iZ P nt B w0 h0 r n i o A σ a w Q:=by
  simp only[act,aLd,aU]at hA;split at hA;rename_i ag m hg jw;split at hA;rename_i L off hx;have xH:=(ig S hx).1;simp only[iV]at xH;split at hA;rename_i ty cells hL;obtain⟨C,hC,hr⟩:=S.obj L _ hL;split at hA;rename_i d hrd;subst hA;refine xW (o':=0) S hd aU rfl hg jw (by rw[xH,NR]) hC (λj y hj=>?_) hrd (S.clO L _ hL);obtain⟨v,hv,Ql⟩:=hr.get j y hj;exact⟨v,by simpa using hv,Ql⟩;subst hA;exact hs.elim;rename_i cells hL;obtain⟨C,ty,fr,hC,hr⟩:=S.obj L _ hL;split at hA;rename_i d hrd;subst hA;refine xW (o':=0) S hd aU rfl hg jw (by rw[xH,NR]) (S.hw.fz hC) (λj y hj=>?_) hrd (by rw[nK];intro L hL;simp at hL);simp only[dq0]at hj;obtain⟨p,hp,rfl⟩:=Yh.1 hj;obtain⟨v,hv,Ql⟩:=hr.get j p hp;exact⟨v,by simpa using hv,Ql⟩;subst hA;exact hs.elim;subst hA;exact hs.elim;rename_i cells off hx;obtain⟨b,o',C,ty,fr,hv,hb,hc⟩:=QJ (jl S hx);split at hA;rename_i d hrd;subst hA;refine xW S hd aU rfl hg jw hv (S.hw.fz hb) (λj y hj=>?_) hrd (by rw[nK];intro L hL;simp at hL);simp only[dq0]at hj;obtain⟨p,hp,rfl⟩:=Yh.1 hj;exact hc j p hp;subst hA;exact hs.elim;rename_i L s ii k hx;obtain⟨b,hb,xH⟩:=(ig S hx).1;split at hA;rename_i e s' OB len get hL;split at hA;rename_i d OA hrd;subst hA;have jv:ii<len:=hs;have OA:=kY OA;subst OA;obtain⟨b',C,bT,_,hC,_,hlen,IU⟩:=uk (S.obj L _ hL) jv;rw[hb]at bT;simp only[bG]at bT;subst bT;refine xW (o':=ii*s) S hd aU (A:=.chk _ _ _ _ _) rfl hg jw xH hC (λj y hj=>?_) hrd (by rw[nK];intro L hL;simp at hL);simp only[dq0]at hj;obtain⟨p,hp,rfl⟩:=Yh.1 hj;exact IU j p hp;subst hA;exact hs.elim;rename_i s' len get hL;split at hA;rename_i d OA hrd;subst hA;have jv:ii<len:=hs;have OA:=kY OA;subst OA;obtain⟨b',o',cap,C,ty,fr,lQ,hC,hlen,IU⟩:=QK (S.obj L _ hL).1 jv;have h00:o'=0:=(S.obj L _ hL).2 _ _ _ lQ;rw[lQ]at hb;simp only[Value.ownBlock,bG]at hb;subst hb;subst h00;refine xW (o':=ii*s) S hd aU (A:=.chk _ _ _ _ _) rfl hg jw xH (S.hw.fz hC) (λj y hj=>?_) hrd (by rw[nK];intro L hL;simp at hL);simp only[dq0]at hj;obtain⟨p,hp,rfl⟩:=Yh.1 hj;have:=IU j p hp;rwa[NR]at this;subst hA;exact hs.elim;split at hA;rename_i OA;simp only[fH]at OA;have hs1:=kY OA.1;have hk0:=kY OA.2;subst hs1 hk0;split at hA;rename_i dst Gw;split at hA;rename_i te bb e s' b2 len ln get gB hL;subst hA;have jv:ii<len:=hs;obtain⟨b',C,cap,lQ,hC,qW,pg⟩:=UC (S.obj L _ hL) jv;rw[lQ]at hb;simp only[Value.ownBlock,bG]at hb;subst hb;have iK:L≠dst:=by rintro rfl;rw[gB]at hL;cases hL
  obtain⟨jr,hi1,hi2,zln,IU,IP⟩:=S.obj L _ hL;obtain⟨r1,_,xs,r3,r4⟩:=IU ii jv
  have S1 := S.write (o' := .vt te bb e s' b2 len ln get ii) hL (fun k hk => hk.imp id fun ⟨i, h1, _, h2⟩ => ⟨i, h1, h2⟩) (.refl _ _) (fun _ _ => rfl)
    ⟨jr,hi1,hi2,zln,r1,(λk (hk:g.iv L ii=.map (some k))=>by rcases r3.2 with⟨h1,_⟩|⟨_,_,_,h1,_⟩<;>rw[h1]at hk<;>cases hk),λi hi _=>IU i hi,λi k hi _ hk=>⟨(IP i k hi hk).1,λj hj _ je=>(IP i k hi hk).2 j hj je⟩⟩ (λM hM=>by simp[dJ]at hM)
  have S2:=S1.adopt (t:=dst) (e:=e) (s:=s') (b:=b2) (n:=ln ii) (get:=get ii) (v:=g.iv L ii) (by rw[aS,dM iK];exact gB) (λk hk=>by
    have fK:=S.own L _ k hL (.inr ⟨ii,jv,hk⟩);refine⟨fK.1,fK.2,λX o ho hX=>?_⟩;rw[aS]at ho;split at ho;rename_i e1;simp only[bG]at ho;subst ho e1;rcases hX with hX|⟨i,h1,h2,h3⟩
    exact(IP ii k jv hk).1 hX;exact h2 ((IP ii k jv hk).2 i h1 h3).symm;rename_i e1;exact e1 (S.sep L _ k X o hL ho (.inr ⟨ii,jv,hk⟩) hX))
    ⟨⟨λk l=>jr.1 ii k ii l,jr.2⟩,hi2,xs,by simpa [Gh.setSv]using r3,r4⟩
  refine oW (by simp[aU]) (v:=g.iv L ii) (w':=w) ?_ ⟨g.setSv dst (g.iv L ii),_,rfl,?_⟩;have:=wU (P:=P) (o:=ii*1+0) hg hC (g.iv L ii) (by simpa using qW);simp only[execOp,aU,Sem.run_bind,Instr.loadAt,xH,Instr.sureAddr,Sem.run_pure,Result.andThen_ok,this];rw [fG];exact S2.put hd (d:=.cl (.vec dst)) ⟨by simp[Gh.setSv],r1⟩ (λM hM=>by simp[bQ,dw,aY]at hM;subst hM;exact⟨_,by rw[aS,dH rfl]⟩) _;subst hA;exact hs.elim;subst hA;exact hs.elim;subst hA;exact hs.elim;subst hA;exact hs.elim;subst hA;exact hs.elim;subst hA;exact hs.elim
end
end Go.Pm
namespace Go.Pm
variable [aG]
open Go.RowKit (Below)
open Go.MapKept (IsKey findNow_spec run_checkKey)
section
variable{P:Program}{Γ:bM}{nt B:Nat}{w0:World}{h0:Fz}{g:Gh}{σ:St}{a:Act}{w:World}{r:Option Nat}{n i:Nat}{Q:Exit->Act->World->Prop}
theorem BV{t:TypeId}{ag:Bool}{m off:Nat}{cells:List Cl}{vs:List Value}{d:D1}(hg:jb P t=some ag)(hs:oP P t=some m)(hr:kL ag m cells off=some d)(hc:RL (iV g) cells vs) :
  ∃v,(part t vs.toArray off).run P w=.ok v w/\zS g d v:=by
 cases ag with
 | true =>
  simp only[kL]at hr;split at hr;simp only [bG]at hr;subst hr;refine⟨.agg (vs.toArray.extract off (off+m)),?_,(vs.drop off).take m,?_,(hc.drop off).take m⟩;simp only[part,Sem.run_bind,nI hg,Result.andThen_ok,OM,run_sizeOf hs,Sem.run_pure];simp[jqV,jqs];cases hr
 | false =>
  simp only[kL]at hr;split at hr;rename_i x hx;simp only[bG]at hr;subst hr;obtain⟨v,hv,xg⟩:=hc.get off x hx;refine⟨v,?_,xg⟩;simp only[part,Sem.run_bind,nI hg,Result.andThen_ok,qdm,qd2];rw[show vs.toArray[off]? = some v by simpa using hv];simp;cases hr
theorem zaH:∀(d:Nat)(t:TypeId)(x y:D1)(r:Bool),eqT P d t x y=some r→∀(e:Nat)(v u:Value),zS g x v→zS g y u→(Op.equalIn (d+e) t v u).run P w = .ok r w
  | 0,t,x,y,r,h=>by simp[eqT]at h
  | d+1,t,x,y,r,h=>by
    intro e v u hv hu;have he:d+1+e=(d+e)+1:=by omega
    rw[he];simp only[eqT]at h;split at h;rename_i hut;split at h;simp only [bG]at h;subst h;cases hv;cases hu;exact run_equalIn_bool' w _ _ _ _ hut;cases h;rename_i q hut;split at h;split at h;rename_i hk;simp only[bG]at h;subst h;subst hk;cases hv;cases hu;exact run_equalIn_int w _ _ _ _ _ _ hut;cases h;cases h
    · rename_i fs hut;split at h
      · rename_i xs ys IQ;obtain⟨vs,rfl,jI⟩:=hv;obtain⟨us,rfl,Qm⟩:=hu;have hf:P.fieldsOf t=fs:=by simp[Program.fieldsOf,hut]
        rw[run_equalIn_struct w (d+e) t _ _ (by rw[hf];exact hut) IQ,hf];have key:∀(l:List Field)(r:Bool),l.foldr (λf acc =>
            match acc, f.name != "_", jb P f.type, oP P f.type with
            | some r,true,some ag,some n=>match kL ag n xs f.offset,kL ag n ys f.offset with
              | some a,some b=>match eqT P d f.type a b with
                | some e=>some (match e with|true=>r|false=>false)
                | none=>none
              | _,_=>none
            | _,_,_,_=>none) (some true)=some r->(Op.eqFields (d+e) vs.toArray us.toArray l).run P w=.ok r w:=by
          intro l
          induction l with
          | nil=>intro r h;simp only[List.foldr_nil,bG]at h;subst h;simp[Op.eqFields]
          | cons f l ih =>
            intro r h;rw[List.foldr_cons]at h;split at h
            · rename_i r' ag m zSt zIa xk jw;split at h
              · rename_i a' b' ha' lS;split at h
                · rename_i e' he';simp only[bG] at h;obtain⟨va,hva,hra⟩:=BV (w:=w) xk jw ha' jI;obtain⟨vb,hvb,hrb⟩:=BV (w:=w) xk jw lS Qm;have hq:=zaH d f.type a' b' e' he' e va vb hra hrb
                  have hn : f.name ≠ "_" := by simpa using zIa
                  simp only[Op.eqFields,dH hn,Sem.run_bind,hva,hvb,hq,Result.andThen_ok];cases e' with|true=>simp only at h;subst h;simpa using ih r' zSt|false=>simp only at h;subst h;simp
                cases h
              cases h
            cases h
        exact key fs.toList r h
      cases h
    cases h
theorem zu4{o:Oper}{op:BinOp}{t t':TypeId}{x y:Operand}{cs ds:List Cl}{A:aA}(S:bK P nt B w0 h0 g σ a w)(hd:dA nt o.dst=true)(aU:o.op = .binOp op t x y t')
    (hx:dW σ.env x=.one (.agg cs)) (hy:dW σ.env y=.one (.agg ds)) (hA:zav P op t cs ds=A) (hs:A.safe):iZ P nt B w0 h0 r n i o A σ a w Q:=by
  have h1:=S.ev x;have h2:=S.ev y;rw[hx]at h1;rw[hy]at h2;obtain⟨vs,hv,_⟩:=id h1;obtain⟨us,hu,_⟩:=id h2;unfold zav at hA;split at hA;rename_i q hgd hq;have cu:=zaH (w:=w) 8 t (.agg cs) (.agg ds) q hq 9992 _ _ h1 h2;rw[hv,hu]at cu;split at hA;subst hA;refine dE S hd (by simp[aU]) (d:=.bool q) (v:=.bool q) (fp:=[]) rfl ?_ (.bool q) (jZ _);simp only[execOp,aU,hv,hu,Sem.run_bind,run_eqGuard_agg w _ _ _ _ _ _ hgd,Result.andThen_ok,run_eql_struct];rw[cu];rfl;subst hA;refine dE S hd (by simp[aU]) (d:=.bool (!q)) (v:=.bool (!q)) (fp:=[]) rfl ?_ (.bool (!q)) (jZ _);simp only[execOp,aU,hv,hu,Sem.run_bind,run_eqGuard_agg w _ _ _ _ _ _ hgd,Result.andThen_ok,run_neq_struct];rw[cu];rfl;subst hA;exact hs.elim;subst hA;exact hs.elim
theorem zda{o:Oper}{t:TypeId}{x y:Operand}{A:aA}(S:bK P nt B w0 h0 g σ a w)(hd:dA nt o.dst=true)(aU:o.op = .index t x y)
    (hA:act P Γ o (dW σ.env) (lk σ.ay)=A) (hs:A.safe):iZ P nt B w0 h0 r n i o A σ a w Q:=by
  simp only[act,aU,JB]at hA;split at hA;rename_i m e hu;split at hA;rename_i sz ag cs k j jw xk hx hy;split at hA;rename_i d jv hr;subst hA;have h1:=S.ev x;rw[hx]at h1;obtain⟨vs,hv,jI⟩:=h1;have hj:=jR S hy;obtain⟨v,cu,hdv⟩:=BV (w:=w) xk jw hr jI;have zr0:j<m:=by simpa [qd6]using jv
  refine dE S hd (by simp[aU]) (d:=.one d) (v:=v) (fp:=[]) rfl ?_ hdv (λL hL=>?_);simp only [execOp,aU,hv,hj,Instr.index,asIntOf,Sem.run_bind,Sem.run_pure,Result.andThen_ok,run_underlying hu];rw[dH ⟨by simp,by simpa using zr0⟩];simp only[Sem.run_bind,run_sizeOf jw,Result.andThen_ok];rw[show(Int.ofNat j).toNat=j from rfl,cu];rfl;refine S.evLab x L ?_;rw[hx];exact J6 hr L hL;subst hA;exact hs.elim;subst hA;exact hs.elim;subst hA;exact hs.elim
theorem zdb{o:Oper}{t:TypeId}{x:Operand}{f:Nat}{A:aA}(S:bK P nt B w0 h0 g σ a w)(hd:dA nt o.dst=true)(aU:o.op = .field t x f)
    (hA:act P Γ o (dW σ.env) (lk σ.ay)=A) (hs:A.safe):iZ P nt B w0 h0 r n i o A σ a w Q:=by
  simp only[act,aU,JC]at hA;split at hA;rename_i fs hu;split at hA;rename_i fd hfd;split at hA;rename_i m ag cs jw xk hx;split at hA;rename_i d hr;subst hA;have h1:=S.ev x;rw[hx]at h1;obtain⟨vs,hv,jI⟩:=h1;obtain⟨v,cu,hdv⟩:=BV (w:=w) xk jw hr jI;refine dE S hd (by simp[aU]) (d:=.one d) (v:=v) (fp:=[]) rfl ?_ hdv (λL hL=>?_);simp only [execOp,aU,hv,Instr.field,asAgg,Sem.run_bind,Sem.run_pure,Result.andThen_ok,run_underlying hu,hfd];rw[cu];rfl;refine S.evLab x L ?_;rw[hx];exact J6 hr L hL;subst hA;exact hs.elim;subst hA;exact hs.elim;subst hA;exact hs.elim;subst hA;exact hs.elim
theorem QL{o:Oper}{t e:TypeId}{m:Nat}{x y:Operand}{A:aA}(S:bK P nt B w0 h0 g σ a w)(hd:dA nt o.dst=true)(aU:o.op = .indexAddr t x y)(hu:P.underlying t=some (.array m e))
    (hA:BJ P m e (dW σ.env x) (dW σ.env y)=A) (hs:A.safe):iZ P nt B w0 h0 r n i o A σ a w Q:=by
  unfold BJ at hA;split at hA;rename_i sz k j jw hy;split at hA;rename_i jv;have hj:=jR S hy;have zr0:j<m:=by simpa [qd6]using jv
  have run:∀b o':Nat,a.eval x=.pointer (some ⟨b,o',none⟩)->(execOp a.eval o).run P w=.ok (.value (.pointer (some ⟨b,o'+j*sz,none⟩))) w:=by
    intro b o' hv;simp only[execOp,aU,hv,hj,Instr.indexAt,asIntOf,Sem.run_bind,Sem.run_pure,Result.andThen_ok,run_underlying hu,Instr.sureAddr];rw[dH ⟨by simp,by simpa using zr0⟩];simp only[Sem.run_bind,run_sizeOf jw,Result.andThen_ok,addr_add,Sem.run_pure];rfl
  split at hA;rename_i L off hx;subst hA;obtain⟨h1,h2⟩:=ig S hx;exact dE S hd (by simp[aU]) (d:=.cl (.ptr L (off+j*sz))) (fp:=[]) rfl (run _ _ h1) rfl h2;rename_i c off hx;subst hA;obtain⟨b,o',C,ty,fr,hv,hb,hc⟩:=QJ (jl S hx);have:=run b (o'+off) hv;rw[qjn]at this;exact dE S hd (by simp[aU]) (d:=.p (.fp c (off+j*sz))) (fp:=[]) rfl this (I5 hb hc _) (jZ _);subst hA;exact hs.elim;subst hA;exact hs.elim;subst hA;exact hs.elim
theorem zaI(j:Int):IsKey (.int .i64) (.int .i64 j):=by simp[IsKey]
theorem zaJ:∀{cs:List Cl}{l:List Int}{vs:List Value},JA cs=some l→RL (iV g) cs vs→vs=l.map (Value.int .i64)
  | [],l,[],h,_=>by simp[JA]at h;subst h;rfl
  | [],_,_::_,_,hr=>hr.elim
  | _::_,_,[],_,hr=>hr.elim
  | c::cs,l,v::vs,h,hr=>by
    cases c with
    | p x =>
      cases x with
      | int k a' =>
        cases k<;>simp only[JA]at h<;>try cases h
        split at h;rename_i l' vk;simp only[bG]at h;subst h;have h1:=hr.1;cases h1;rw[zaJ vk hr.2];rfl;cases h
      | _=>simp[JA]at h
    | _=>simp[JA]at h
end
end Go.Pm
namespace Go.Pm
variable [aG]
open Go.RowKit (Below)
section
variable{P:Program}{Γ:bM}{nt B:Nat}{w0:World}{h0:Fz}{g:Gh}{σ:St}{a:Act}{w:World}{r:Option Nat}{n i:Nat}{Q:Exit->Act->World->Prop}
theorem QM{o:Oper}{x:Operand}{A:aA}(S:bK P nt B w0 h0 g σ a w)(hd:dA nt o.dst=true)(aU:o.op = .nilCheck x)
    (hA:act P Γ o (dW σ.env) (lk σ.ay)=A) (hs:A.safe):iZ P nt B w0 h0 r n i o A σ a w Q:=by
  simp only[act,aNc,aU]at hA;split at hA;rename_i L off hx;subst hA;obtain⟨h1,h2⟩:=ig S hx;refine dE S hd (by simp[aU]) (v:=a.eval x) (fp:=[]) rfl ?_ h1 h2;simp only[iV]at h1;simp[execOp,aU,h1];rename_i c off hx;subst hA;obtain⟨h1,h2⟩:=ig S hx;refine dE S hd (by simp[aU]) (v:=a.eval x) (fp:=[]) rfl ?_ h1 h2;obtain⟨b,o',C,ty,fr,hv,_⟩:=QJ h1;simp[execOp,aU,hv];rename_i L s ii k hx;subst hA;obtain⟨h1,h2⟩:=ig S hx;refine dE S hd (by simp[aU]) (v:=a.eval x) (fp:=[]) rfl ?_ h1 h2;obtain⟨b,_,hv⟩:=h1;simp[execOp,aU,hv];subst hA;exact hs.elim
theorem wV{op:BinOp}{t:TypeId}{x y:Operand}{k k':IntKind}{p q:Int}:(eqGuard op t x y (.int k p) (.int k' q)).run P w=.ok () w:=by
 unfold eqGuard;cases op<;>rfl
theorem uo{op:BinOp}{t:TypeId}{x y:Operand}{p q:Bool}:(eqGuard op t x y (.bool p) (.bool q)).run P w=.ok () w:=by
 unfold eqGuard;cases op<;>rfl
theorem zdc{o:Oper}{op:BinOp}{t t':TypeId}{x y:Operand}{A:aA}(S:bK P nt B w0 h0 g σ a w)(hd:dA nt o.dst=true)(aU:o.op = .binOp op t x y t')
    (hA:act P Γ o (dW σ.env) (lk σ.ay)=A) (hs:A.safe):iZ P nt B w0 h0 r n i o A σ a w Q:=by
  simp only[act,aBn,aU]at hA;split at hA;rename_i k p k' q hx hy;have h1:=jR S hx;have h2:=jR S hy;split at hA;rename_i hk;subst hk;have fin:∀(v:PV)(u:Value)(A:aA),nJ A i o.dst σ (σ.upd i o.dst [] (.p v) [] [])->(binOp op t (.int k p) (.int k q)).run P w=.ok u w->Rep g.h v u->iZ P nt B w0 h0 r n i o A σ a w Q:=by
    intro v u A hA cu hr;refine dE S hd (by simp[aU]) (d:=.p v) (v:=u) (fp:=[]) hA ?_ hr (jZ v);simp only[execOp,aU,h1,h2,Sem.run_bind,wV,Result.andThen_ok,cu,Sem.run_pure]
  unfold Uh at hA;split at hA<;>subst hA;have hq:0≤q:=hs;exact fin _ _ (.chk _ _ _ _ _) rfl (by simp[binOp,Op.shift,jqz.2 hq,Qw]) (.int _ _);have hq:0≤q:=hs;exact fin _ _ (.chk _ _ _ _ _) rfl (by simp[binOp,Op.shift,jqz.2 hq,Ip]) (.int _ _);exact fin _ _ _ rfl (by simp[binOp,Op.intBits,N7]) (.int _ _);exact fin _ _ _ rfl (by simp[binOp,Op.intBits,orW]) (.int _ _);exact fin _ _ _ rfl (by simp[binOp,Op.intBits,zCh]) (.int _ _);exact fin _ _ _ rfl (by simp[binOp,Op.intBits,pR]) (.int _ _);exact fin _ _ _ rfl (by simp[binOp,Op.intArith]) (.int _ _);exact fin _ _ _ rfl (by simp[binOp,Op.intArith]) (.int _ _);exact fin _ _ _ rfl (by simp[binOp,Op.intArith]) (.int _ _);have hq:q≠0:=hs;exact fin _ _ (.chk _ _ _ _ _) rfl (by simp[binOp,Op.intDiv,hq]) (.int _ _);have hq:q≠0:=hs;exact fin _ _ (.chk _ _ _ _ _) rfl (by simp[binOp,Op.intDiv,hq]) (.int _ _);exact fin _ _ _ rfl (by simp[binOp,Op.intCmp]) (.bool _);exact fin _ _ _ rfl (by simp[binOp,Op.intCmp]) (.bool _);exact fin _ _ _ rfl (by simp[binOp,Op.intCmp]) (.bool _);exact fin _ _ _ rfl (by simp[binOp,Op.intCmp]) (.bool _);exact fin _ _ _ rfl (by simp[binOp,Op.intCmp]) (.bool _);exact fin _ _ _ rfl (by simp[binOp,Op.intCmp]) (.bool _);have fin:∀(v:PV)(u:Value)(A:aA),nJ A i o.dst σ (σ.upd i o.dst [] (.p v) [] [])->(binOp op t (.int k p) (.int k' q)).run P w=.ok u w->Rep g.h v u->iZ P nt B w0 h0 r n i o A σ a w Q:=by
    intro v u A hA cu hr;refine dE S hd (by simp[aU]) (d:=.p v) (v:=u) (fp:=[]) hA ?_ hr (jZ v);simp only[execOp,aU,h1,h2,Sem.run_bind,wV,Result.andThen_ok,cu,Sem.run_pure]
  unfold zfX at hA;split at hA<;>subst hA;have hq:0≤q:=hs;exact fin _ _ (.chk _ _ _ _ _) rfl (by simp[binOp,Op.shift,jqz.2 hq,Qw]) (.int _ _);have hq:0≤q:=hs;exact fin _ _ (.chk _ _ _ _ _) rfl (by simp[binOp,Op.shift,jqz.2 hq,Ip]) (.int _ _);exact hs.elim;rename_i p q hx hy;have h1:=um S hx;have h2:=um S hy;have cu:P.underlying t=some .bool->(Op.equal t (.bool p) (.bool q)).run P w=.ok (p==q) w:=by
    intro ht;unfold Op.equal;rw[show Op.maxDepth=9999+1 from rfl,Op.equalIn];simp only[Sem.run_bind,run_underlying ht,Result.andThen_ok,Sem.run_pure]
  split at hA<;>(try rename_i ht _)<;>subst hA;refine dE S hd (by simp [aU]) (d := .bool (p==q)) (v := .bool (p==q)) (fp:=[]) rfl ?_ (.bool _) (jZ _);simp only[execOp,aU,h1,h2,Sem.run_bind,uo,Result.andThen_ok,binOp,cu ‹_›,Sem.run_pure];refine dE S hd (by simp [aU]) (d := .bool (p != q)) (v := .bool (p != q)) (fp:=[]) rfl ?_ (.bool _) (jZ _);simp only[execOp,aU,h1,h2,Sem.run_bind,uo,Result.andThen_ok,binOp,cu ‹_›,Sem.run_pure];rfl;exact hs.elim;rename_i cs ds hx hy;exact zu4 S hd aU hx hy hA hs;subst hA;exact hs.elim
theorem zgf{o:Oper}{op:UnOp}{t:TypeId}{x:Operand}{A:aA}(S:bK P nt B w0 h0 g σ a w)(hd:dA nt o.dst=true)(aU:o.op = .unOp op t x)
    (hA:act P Γ o (dW σ.env) (lk σ.ay)=A) (hs:A.safe):iZ P nt B w0 h0 r n i o A σ a w Q:=by
  simp only[act,aUn,aU]at hA;split at hA;rename_i p hx;subst hA;have h1:=um S hx;refine dE S hd (by simp[aU]) (d:=.bool (!p)) (v:=.bool (!p)) (fp:=[]) rfl ?_ (.bool _) (jZ _);simp[execOp,aU,h1,Op.unary];rename_i k p hx;subst hA;have h1:=jR S hx;refine dE S hd (by simp[aU]) (d:=.p (.int k (k.wrap (0-p)))) (v:=.int k (k.wrap (0-p))) (fp:=[]) rfl ?_ (.int _ _) (jZ _);simp only[execOp,aU,h1,Op.unary,Op.intArith,Sem.run_bind,Sem.run_pure,Result.andThen_ok];subst hA;exact hs.elim
theorem UH{o:Oper}{t1 t2:TypeId}{x:Operand}{A:aA}(S:bK P nt B w0 h0 g σ a w)(hd:dA nt o.dst=true)(aU:o.op = .convert t1 t2 x)
    (hA:act P Γ o (dW σ.env) (lk σ.ay)=A) (hs:A.safe):iZ P nt B w0 h0 r n i o A σ a w Q:=by
  simp only[act,aCv,aU]at hA;split at hA;rename_i u1 k k' m h1 h2 hx;subst hA;have hv:=jR S hx;refine dE S hd (by simp[aU]) (d:=.p (.int k (k.wrap m))) (v:=.int k (k.wrap m)) (fp:=[]) rfl ?_ (.int _ _) (jZ _);simp only[execOp,aU,hv,convert,Sem.run_bind,run_underlying h1,run_underlying h2,Result.andThen_ok,Conv.intToInt,Sem.run_pure];subst hA;exact hs.elim
theorem Ob{o:Oper}{t:TypeId}{x:Operand}{f:Nat}{A:aA}(S:bK P nt B w0 h0 g σ a w)(hd:dA nt o.dst=true)(aU:o.op = .fieldAddr t x f)
    (hA:act P Γ o (dW σ.env) (lk σ.ay)=A) (hs:A.safe):iZ P nt B w0 h0 r n i o A σ a w Q:=by
  simp only[act,aFa,aU]at hA;split at hA;rename_i off zRR
  have fin:∀(b o':Nat)(c:Cl)(A:aA),a.eval x=.pointer (some ⟨b,o',none⟩)->nJ A i o.dst σ (σ.upd i o.dst [] (.cl c) [] [])->iV g c (.pointer (some ⟨b,o'+off,none⟩)) ->
      (∀L∈aY c,∃o,lk σ.ay L=some o)->iZ P nt B w0 h0 r n i o A σ a w Q:=by
    intro b o' c A hv hA hc hl;refine dE S hd (by simp[aU]) (d:=.cl c) (v:=.pointer (some ⟨b,o'+off,none⟩)) (fp:=[]) hA ?_ hc hl;simp only[execOp,aU,Sem.run_bind,hv,Us zRR,Result.andThen_ok,Sem.run_pure]
  split at hA;rename_i L k hx;subst hA;obtain⟨h1,h2⟩:=ig S hx;exact fin _ _ _ _ h1 rfl rfl h2;rename_i c k hx;subst hA;obtain⟨h1,h2⟩:=ig S hx;obtain⟨b,o',C,ty,fr,hv,hb,hc⟩:=QJ h1;refine fin b (o'+k) _ _ hv rfl ?_ h2;rw[qjn];exact I5 hb hc (k+off);rename_i L s ii k hx;subst hA;obtain⟨h1,h2⟩:=ig S hx;obtain⟨b,hb,hv⟩:=h1;refine fin b (ii*s+k) _ _ hv rfl ⟨b,hb,?_⟩ h2;rw[qjn];subst hA;exact hs.elim;subst hA;exact hs.elim
theorem Oc{o:Oper}{t:TypeId}{x y:Operand}{A:aA}(S:bK P nt B w0 h0 g σ a w)(hd:dA nt o.dst=true)(aU:o.op = .indexAddr t x y)
    (hA:act P Γ o (dW σ.env) (lk σ.ay)=A) (hs:A.safe):iZ P nt B w0 h0 r n i o A σ a w Q:=by
  simp only[act,aIa,aU]at hA;split at hA;rename_i e hu;split at hA;rename_i m k j jw hy;have hj:=jR S hy;split at hA;rename_i len s get hx;split at hA;rename_i hsm;subst hsm;subst hA;have qZ:0<=j/\j<(len:Int):=hs;have jv:j.toNat<len:=by omega
  obtain⟨b,o',cap,C,ty,fr,hv,hb,hlen,IU⟩:=QK (jl S hx) jv;refine dE S hd (by simp[aU]) (d:=.p (.fp (get j.toNat) 0)) (v:=.pointer (some ⟨b,o'+j.toNat*s,none⟩)) (fp:=[]) (A:=.chk _ _ _ _ _) rfl ?_ ?_ (jZ _);simp only[execOp,aU,Sem.run_bind,hv,hj,run_indexAt_slice hu jw qZ.1 qZ.2,Result.andThen_ok,Sem.run_pure];exact I5 hb IU 0;subst hA;exact hs.elim;rename_i L hx;obtain⟨h1,h2⟩:=ig S hx;split at hA;rename_i e' s OB len get hL;split at hA;rename_i hsm;subst hsm;subst hA;have qZ:0<=j/\j<(len:Int):=hs;have jv:j.toNat<len:=by omega
  obtain⟨b,C,bT,⟨cap,lQ⟩,hC,_,hlen,IU⟩:=uk (S.obj L _ hL) jv;refine dE S hd (by simp[aU]) (d:=.cl (.vptr L s j.toNat 0)) (v:=.pointer (some ⟨b,0+j.toNat*s,none⟩)) (fp:=_) (A:=.chk _ _ _ _ _) rfl ?_ ?_ h2;simp only[execOp,aU,Sem.run_bind,h1.1,lQ,hj,run_indexAt_slice hu jw qZ.1 qZ.2,Result.andThen_ok,Sem.run_pure];refine⟨b,bT,?_⟩;simp;subst hA;exact hs.elim;rename_i s len get hL;split at hA;rename_i hsm;subst hsm;subst hA;have qZ:0<=j/\j<(len:Int):=hs;have jv:j.toNat<len:=by omega
  obtain⟨b,o',cap,C,ty,fr,hv,hb,hlen,IU⟩:=QK (S.obj L _ hL).1 jv;refine dE S hd (by simp[aU]) (d:=.p (.fp (get j.toNat) 0)) (v:=.pointer (some ⟨b,o'+j.toNat*s,none⟩)) (fp:=_) (A:=.chk _ _ _ _ _) rfl ?_ ?_ (jZ _);simp only[execOp,aU,Sem.run_bind,h1.1,hv,hj,run_indexAt_slice hu jw qZ.1 qZ.2,Result.andThen_ok,Sem.run_pure];exact I5 hb IU 0;subst hA;exact hs.elim;rename_i te bb e' s OB len ln get hL;split at hA;rename_i hsm;subst hsm;subst hA;have qZ:0<=j/\j<(len:Int):=hs;have jv:j.toNat<len:=by omega
  obtain⟨b,C,cap,lQ,hC,_,_⟩:=UC (S.obj L _ hL) jv;refine dE S hd (by simp[aU]) (d:=.cl (.vptr L 1 j.toNat 0)) (v:=.pointer (some ⟨b,0+j.toNat*1,none⟩)) (fp:=_) (A:=.chk _ _ _ _ _) rfl ?_ ?_ h2;simp only[execOp,aU,Sem.run_bind,h1.1,lQ,hj,run_indexAt_slice hu jw qZ.1 qZ.2,Result.andThen_ok,Sem.run_pure];refine⟨b,by rw [lQ];rfl,?_⟩;simp;subst hA;exact hs.elim;rename_i te bb e' s OB len ln get o2 hL;split at hA;rename_i hsm;subst hsm;subst hA;have qZ:0<=j/\j<(len:Int):=hs;have jv:j.toNat<len:=by omega
  obtain⟨b,C,cap,lQ,hC,_⟩:=UD (S.obj L _ hL) jv;refine dE S hd (by simp[aU]) (d:=.cl (.vptr L 1 j.toNat 0)) (v:=.pointer (some ⟨b,0+j.toNat*1,none⟩)) (fp:=_) (A:=.chk _ _ _ _ _) rfl ?_ ?_ h2;simp only[execOp,aU,Sem.run_bind,h1.1,lQ,hj,run_indexAt_slice hu jw qZ.1 qZ.2,Result.andThen_ok,Sem.run_pure];refine⟨b,by rw [lQ];rfl,?_⟩;simp;subst hA;exact hs.elim;subst hA;exact hs.elim;subst hA;exact hs.elim;subst hA;exact hs.elim;rename_i m e hu;exact QL S hd aU hu hA hs;subst hA;exact hs.elim
theorem UI{o:Oper}{x:Operand}{k:Nat}{A:aA}(S:bK P nt B w0 h0 g σ a w)(hd:dA nt o.dst=true)(aU:o.op = .extract x k)
    (hA:act P Γ o (dW σ.env) (lk σ.ay)=A) (hs:A.safe):iZ P nt B w0 h0 r n i o A σ a w Q:=by
  simp only[act,aEx,aU]at hA;split at hA;rename_i ds hx;have h1:=S.ev x;have h2:=S.evLab x;rw[hx]at h1 h2;obtain⟨vs,hv,hr⟩:=h1;split at hA;rename_i d fD;subst hA;obtain⟨v,Ah,hdv⟩:=hr.get k d fD;refine dE S hd (by simp[aU]) (d:=.one d) (v:=v) (fp:=[]) rfl ?_ hdv (λL hL=>h2 L ?_);simp only [execOp,aU,Sem.run_bind,hv,Instr.extract];have:vs.toArray[k]? = some v:=by simpa using Ah
  rw[this];simp;exact jJ.2 ⟨d,Jy fD,hL⟩;subst hA;exact hs.elim;subst hA;exact hs.elim
theorem fb{o:Oper}{b:Builtin}{args:Array Operand}{ts:Array TypeId}(aU:o.op = .call {callee := .builtin b,args,argTypes:=ts}){v:Value}{w':World}
    (h:(builtin b ts o.type (args.map fun | .const _=>true|_=>false) (args.map a.eval)).run P w=.ok (.value v) w'):(execOp a.eval o).run P w=.ok (.value v) w':=by
  simp only[execOp,aU,resolve,Sem.run_bind,Sem.run_pure,Result.andThen_ok,invoke];exact h
theorem zmw{o:Oper}{args:Array Operand}{ts:Array TypeId}{A:aA}(S:bK P nt B w0 h0 g σ a w)(hd:dA nt o.dst=true)(aU:o.op = .call {callee := .builtin .len,args,argTypes:=ts})
    (hA:act P Γ o (dW σ.env) (lk σ.ay)=A) (hs:A.safe):iZ P nt B w0 h0 r n i o A σ a w Q:=by
  simp only[act,aLn,aU]at hA;split at hA;rename_i x t fO hts;have ha:args = #[x]:=by rw[<- qdh (xs:=args),fO]
  have ht:ts = #[t]:=by rw[<- qdh (xs:=ts),hts]
  subst ha ht;split at hA;rename_i e hu;have fin:∀(m:Nat)(ad:Option Addr)(cap:Nat)(fp:List (Nat×Bool))(A:aA),a.eval x=.slice ad m cap->nJ A i o.dst σ (σ.upd i o.dst fp (.int m) [] [])->iZ P nt B w0 h0 r n i o A σ a w Q:=by
    intro m ad cap fp A hv hA;refine dE S hd (by simp[aU]) (d:=.int m) (v:=.int .i64 m) (fp:=fp) hA (fb aU ?_) (.int _ _) (jZ _);simp only[builtin,Sem.run_bind,Builtin.len_];simp[hv,run_underlying hu,goInt]
  split at hA
  · rename_i m s get hx;subst hA;have h1:=jl S hx;generalize hv:a.eval x=v at h1;cases h1 with|sl0=>exact fin 0 _ _ [] _ hv rfl|sle=>exact fin 0 _ _ [] _ hv rfl|sl=>exact fin m _ _ [] _ hv rfl
  rename_i hx;subst hA;have h1:=jl S hx;generalize hv:a.eval x=v at h1;cases h1;exact fin 0 _ _ [] _ hv rfl;rename_i L hx;obtain⟨h1,_⟩:=ig S hx;split at hA;rename_i e' s b m get hL;subst hA;obtain⟨_,_,xs,hxs,_⟩:=S.obj L _ hL;rcases hxs.2 with⟨h5,h6⟩|⟨k,cap,cur,h5,_⟩
  subst h6;exact fin 0 _ _ _ _ (h1.1.trans h5) rfl;exact fin m _ _ _ _ (h1.1.trans h5) rfl
  · rename_i s m get hL;subst hA;have h2:=(S.obj L _ hL).1;generalize hv:g.sv L=v at h2;cases h2 with|sl0=>exact fin 0 _ _ _ _ (h1.1.trans hv) rfl|sle=>exact fin 0 _ _ _ _ (h1.1.trans hv) rfl|sl=>exact fin m _ _ _ _ (h1.1.trans hv) rfl
  rename_i te bb e' s b m ln get hL;subst hA;obtain⟨_,_,_,hxs,_,_⟩:=S.obj L _ hL;rcases hxs.2 with⟨h5,h6⟩|⟨k,cap,cur,h5,_⟩
  subst h6;exact fin 0 _ _ _ _ (h1.1.trans h5) rfl;exact fin m _ _ _ _ (h1.1.trans h5) rfl;subst hA;exact hs.elim;subst hA;exact hs.elim;rename_i kt vt hu
  have UJ:∀(m:Nat)(b:Nat)(es:Array MapEntry)(clock:Nat)(q:MQ)(F:List Int->Option (List Int))(fp:List (Nat×Bool))(A:aA),a.eval x=.map (some b)->w.heap[b]? = some (.map es clock)->moE q m F es clock ->
      nJ A i o.dst σ (σ.upd i o.dst fp (.int m) [] [])->iZ P nt B w0 h0 r n i o A σ a w Q:=by
    intro m b es clock q F fp A hv hh hm hA;obtain⟨en,hen⟩:=hm;have jw:es.size=m:=by
      have:=jF List.length hen.ents;simp only[qda,qd3]at this;rw[this,hen.size]
    refine dE S hd (by simp[aU]) (d:=.int m) (v:=.int .i64 m) (fp:=fp) hA (fb aU ?_) (.int _ _) (jZ _);simp only[builtin,Sem.run_bind,Builtin.len_];simp[hv,run_underlying hu,goInt,MapKept.run_getObj_map hh,jw]
  split at hA;rename_i L hx;obtain⟨h1,_⟩:=ig S hx;split at hA;rename_i kt' vt' q m F hL;subst hA;obtain⟨es,clock,hh,_,hm⟩:=S.obj L _ hL;exact UJ m _ es clock q F _ _ h1 hh hm rfl;subst hA;exact hs.elim;subst hA;exact hs.elim;subst hA;exact hs.elim;subst hA;exact hs.elim
theorem J9{args:Array Operand}{ev:Operand->DV}{p q:DV}(h:args.toList.map ev=[p,q]):∃x y,args = #[x,y]/\ev x=p/\ev y=q:=by
 match hl:args.toList,h with
 | [x,y],h =>
  simp at h;exact⟨x,y,by rw[<- qdh (xs:=args),hl],h.1,h.2⟩
 | [],h=>simp at h
 | [_],h=>simp at h
 | _::_::_::_,h=>simp at h
theorem zmx{o:Oper}{args:Array Operand}{ts:Array TypeId}{A:aA}(S:bK P nt B w0 h0 g σ a w)(hd:dA nt o.dst=true)(aU:o.op = .call {callee := .builtin .max,args,argTypes:=ts})
    (hA:act P Γ o (dW σ.env) (lk σ.ay)=A) (hs:A.safe):iZ P nt B w0 h0 r n i o A σ a w Q:=by
  simp only[act,aMx,aU]at hA;split at hA;rename_i k p k' q fO;subst hA;obtain⟨x,y,rfl,hx,hy⟩:=J9 fO;have h1:=jR S hx;have h2:=jR S hy;refine dE S hd (by simp[aU]) (d:=.p (.int k (if q>p then q else p))) (v:=.int k (if q>p then q else p)) (fp:=[]) rfl (fb aU ?_) (.int _ _) (jZ _);simp[builtin,Builtin.max_,h1,h2,Builtin.max2];subst hA;exact hs.elim
theorem zmy{o:Oper}{args:Array Operand}{ts:Array TypeId}{A:aA}(S:bK P nt B w0 h0 g σ a w)(hd:dA nt o.dst=true)(aU:o.op = .call {callee := .builtin .min,args,argTypes:=ts})
    (hA:act P Γ o (dW σ.env) (lk σ.ay)=A) (hs:A.safe):iZ P nt B w0 h0 r n i o A σ a w Q:=by
  simp only[act,aMi,aU]at hA;split at hA;rename_i k p k' q fO;subst hA;obtain⟨x,y,rfl,hx,hy⟩:=J9 fO;have h1:=jR S hx;have h2:=jR S hy;refine dE S hd (by simp[aU]) (d:=.p (.int k (if q<p then q else p))) (v:=.int k (if q<p then q else p)) (fp:=[]) rfl (fb aU ?_) (.int _ _) (jZ _);simp[builtin,Builtin.min_,h1,h2,Builtin.min2];subst hA;exact hs.elim
end
end Go.Pm
namespace Go.Pm
variable [aG]
open Go.RowKit (Below)
section place
variable{P:Program}
def Ro{α:Type}(P:Program)(s:Sem α):Prop:=∀w a w',s.run P w=.ok a w'->w'.heap=w.heap
theorem bind_ok{α β:Type}{x:Sem α}{f:α->Sem β}{w w':World}{b:β}(h:(x >>= f).run P w=.ok b w'):∃a w1,x.run P w=.ok a w1/\(f a).run P w1=.ok b w':=by
 rw[Sem.run_bind]at h;cases hx:x.run P w with|ok a w1=>rw[hx]at h;exact⟨a,w1,rfl,h⟩|halt e w1=>rw[hx]at h;cases h
theorem Ro.bind{α β:Type}{x:Sem α}{f:α->Sem β}(hx:Ro P x)(hf:∀a,Ro P (f a)):Ro P (x >>= f):=by
 intro w b w' h;obtain⟨a,w1,h1,h2⟩:=bind_ok h;exact(hf a w1 b w' h2).trans (hx w a w1 h1)
theorem Ro.pure{α:Type}(a:α):Ro P (Pure.pure a:Sem α):=by
 intro w b w' h;simp at h;rw[h.2]
theorem Ro.halt{α:Type}(e:Halt):Ro P (.halt e:Sem α):=by
 intro w b w' h;simp at h
theorem Ro.ite{α:Type}{c:Prop}[Decidable c]{x y:Sem α}(hx:Ro P x)(hy:Ro P y):Ro P (if c then x else y):=by
 split;exact hx;exact hy
theorem Ro.load(a:Addr)(m:Mode):Ro P (Go.load a m):=by
 intro w b w' h;rw[run_load]at h;split at h;simp at h;rw[h.2];split at h;simp at h;rw[h.2];cases h
theorem Ro.loadCellsFrom(a:Addr):∀(n i:Nat)(acc:Array Value),Ro P (loadCellsFrom a i n acc)|0,_,acc=>Ro.pure acc|n+1,i,acc=>(Ro.load _ _).bind λv=>Ro.loadCellsFrom a n (i+1) (acc.push v)
theorem Ro.firstCells(s n:Nat)(v:Value):Ro P (Builtin.firstCells s n v):=by
 unfold Builtin.firstCells;split;exact Ro.loadCellsFrom _ _ _ _;exact Ro.pure _;exact Ro.pure _;exact Ro.halt _
theorem Ro.typeInfo(t:TypeId):Ro P (typeInfo t):=by
 intro w b w' h;simp only[Go.typeInfo,Sem.run_bind,run_program,Result.andThen_ok]at h;split at h;simp at h;rw[h.2];simp at h
theorem Ro.zeroValue(t:TypeId):Ro P (zeroValue t):=by
 refine(Ro.typeInfo t).bind λ_=>?_;split;exact Ro.pure _;exact Ro.halt _
theorem Ro.choose(q:Question):Ro P (Go.choose q):=by
 intro w b w' h;rw[run_choose]at h;split at h;simp at h;rw[h.2];simp at h;rw[<- h.2];rfl
theorem Ro.askRoom(m:Nat):Ro P (askRoom m):=by
 intro w b w' h;simp at h;rw[h]
theorem Ro.program:Ro P program:=by
 intro w b w' h;simp at h;rw[h.2]
theorem Ro.underlying(t:TypeId):Ro P (underlying t):=by
 refine Ro.program.bind λ_=>?_;split;exact Ro.pure _;exact Ro.halt _
theorem Ro.sizeOf(t:TypeId):Ro P (sizeOf t):=(Ro.typeInfo t).bind λ_=>Ro.pure _
theorem Ro.stuck{α:Type}(s:String):Ro P (stuck s:Sem α):=Ro.halt _
theorem Ro.unsupported{α:Type}(s:Unsupported):Ro P (unsupported s:Sem α):=Ro.halt _
theorem Ro.asIntOf(v:Value):Ro P (asIntOf v):=by
 unfold Go.asIntOf;split;exact Ro.pure _;exact Ro.unsupported _;exact Ro.stuck _
theorem Ro.asInt(v:Value):Ro P (asInt v):=(Ro.asIntOf v).bind λ_=>Ro.pure _
theorem Ro.error{α:Type}(m:String):Ro P (runtimePanic (.error m):Sem α):=by
 refine Ro.program.bind λ_=>?_;exact Ro.halt _
theorem Ro.mark(m:Mark):Ro P (mark m):=by
 intro w b w' h;simp at h;rw[h]
theorem Ro.shape(k:Nat):Ro P (shape k):=by
 intro w b w' h;simp at h;rw[h.2]
theorem Ro.frozen(k:Addr):Ro P (frozen k):=by
 intro w b w' h;simp at h;rw[h.2]
theorem Ro.holdsCells(k:Addr)(m:Nat):Ro P (Builtin.holdsCells k m):=by
 refine(Ro.shape _).bind λ_=>?_;split;exact Ro.pure _;exact Ro.pure _
theorem Ro.mayShare(size zz7 m:Nat)(base:Option Addr)(x:Value):Ro P (Builtin.mayShare size zz7 m base x):=by
 unfold Builtin.mayShare
 repeat' first
  | exact Ro.holdsCells _ _
  | exact Ro.frozen _
  | exact Ro.pure _
  | refine Ro.ite ?_ ?_
  | refine Ro.bind ?_ (λ_=>?_)
  | split
def PL(P:Program)(base:Option Nat)(s:Sem Value):Prop:=∀w a w',s.run P w=.ok a w'->a.ownBlock=base\/a.ownBlock=some w.heap.size
theorem PL.bind{α:Type}{base:Option Nat}{x:Sem α}{f:α->Sem Value}(hx:Ro P x)(hf:∀a,PL P base (f a)):PL P base (x >>= f):=by
 intro w b w' h;obtain⟨a,w1,h1,h2⟩:=bind_ok h;have:=hf a w1 b w' h2;rwa[hx w a w1 h1]at this
theorem PL.ite{base:Option Nat}{c:Prop}[Decidable c]{x y:Sem Value}(hx:PL P base x)(hy:PL P base y):PL P base (if c then x else y):=by
 split;exact hx;exact hy
theorem PL.halt{base:Option Nat}(e:Halt):PL P base (.halt e):=by
 intro w b w' h;simp at h
theorem PL.pure{base:Option Nat}{v:Value}(h:v.ownBlock=base):PL P base (Pure.pure v):=by
 intro w b w' h';simp at h';rw[<- h'.1];exact .inl h
theorem PL.then{α:Type}{base:Option Nat}{x:Sem α}{v:Value}(h:v.ownBlock=base):PL P base (x >>= λ_=>Pure.pure v):=by
 intro w b w' h';obtain⟨a,w1,_,h2⟩:=bind_ok h';simp at h2;rw[<- h2.1];exact .inl h
theorem PL.newRow{base:Option Nat}(e:TypeId)(C:Array Value)(m c:Nat):PL P base (newRow e C >>= λa=>Pure.pure (Value.slice (some a) m c)):=by
 intro w b w' h;simp[Go.newRow]at h;rw[<- h.1];exact .inr rfl
theorem BX{t ty:TypeId}{base ad:Option Addr}{zz7 zRU m c:Nat}:PL P (base.map (·.block)) (Builtin.append_ #[t,t] ty #[.slice base zz7 zRU,.slice ad m c]):=by
 unfold Builtin.append_;simp only[jqL,qdp,Yg]
 repeat' first
  | exact PL.newRow _ _ _ _
  | exact PL.pure (by first|rfl|(cases base<;>rfl))
  | exact PL.then (by first|rfl|(cases base<;>rfl))
  | exact PL.halt _
  | exact Ro.underlying _
  | exact Ro.sizeOf _
  | exact Ro.typeInfo _
  | exact Ro.zeroValue _
  | exact Ro.firstCells _ _ _
  | exact Ro.choose _
  | exact Ro.askRoom _
  | exact Ro.asInt _
  | exact Ro.error _
  | exact Ro.unsupported _
  | exact Ro.stuck _
  | exact Ro.pure _
  | exact Ro.mark _
  | exact Ro.mayShare _ _ _ _ _
  | refine PL.ite ?_ ?_
  | refine Ro.ite ?_ ?_
  | refine PL.bind ?_ (λ_=>?_)
  | refine Ro.bind ?_ (λ_=>?_)
  | split
theorem Iy{w:World}{at_:Addr}{u:TypeId}{k:Addr}{v:Value}{b:Bool}{r:World×List Addr}(h:w.viewStore P at_ u k v b=.ok r):r.1.drawn=w.drawn:=by
 unfold World.viewStore at h;simp only[bind,Except.bind,pure,Except.pure]at h
 repeat' first
  | (cases h;done)
  | (simp only[Except.ok.injEq]at h;rw[<- h];done)
  | split at h
theorem Ko{w:World}{a:Addr}{v:Value}{b:Bool}{r:World×List Addr}(h:w.farStore P a v b=.ok r):r.1.drawn=w.drawn:=by
 unfold World.farStore at h;split at h;split at h;rename_i e;simp only[Except.ok.injEq]at h;rw[<- h];exact Iy e;cases h;cases h
theorem Fb{α:Type}:∀(q:Ask α)(w:World),w.drawn≤(w.ask q).2.drawn
  | .done a,w=>by simp[World.ask]
  | .ask zAo range k,w=>by
    simp only[World.ask];split;exact Fb _ _;exact BH (Nat.le_succ w.drawn) (Fb (k _) {w with drawn:=w.drawn+1})
theorem zdd(w:World)(c:Sys):w.drawn<=(w.sys c).2.drawn:=by
 have h:=Fb (Kernel.perform c w.os) w;unfold World.sys;split;exact jy _;rename_i e;rw[e]at h;exact h
theorem fZ{α:Type}:∀(s:Sem α)(w:World)(x:α)(w':World),s.run P w = .ok x w'→w.drawn≤w'.drawn
  | .pure a,w,x,w',h=>by simp only[Sem.run,Result.ok.injEq]at h;rw[h.2];exact jy _
  | .load m a k,w,x,w',h=>by
    simp only[Sem.run]at h;split at h;exact fZ _ _ _ _ h;split at h;exact fZ _ _ _ _ h;cases h
  | .store m a v k,w,x,w',h=>by
    have fin:∀w1,w1.drawn=w.drawn->k.run P w1=.ok x w'->w.drawn<=w'.drawn:=λw1 e h=>by rw[<- e];exact fZ _ _ _ _ h
    cases v with
    | agg cs=>simp only[Sem.run]at h;cases h
    | tuple cs=>simp only[Sem.run]at h;cases h
    | _ =>
      simp only[Sem.run]at h;split at h;split at h;cases h;refine fin _ ?_ h;rfl;split at h;rename_i e;refine fin _ ?_ h;exact Ko e;cases h
  | .new o k,w,x,w',h=>by simp only[Sem.run]at h;have:=fZ _ _ _ _ h;exact this
  | .shape r k,w,x,w',h=>by simp only[Sem.run]at h;exact fZ _ _ _ _ h
  | .freeze a n k,w,x,w',h=>by
    simp only[Sem.run]at h;have:=fZ _ _ _ _ h;have e:(w.freeze a n).drawn=w.drawn:=by unfold World.freeze;split<;>rfl
    rwa[e]at this
  | .frozen a k,w,x,w',h=>by simp only[Sem.run]at h;exact fZ _ _ _ _ h
  | .getObj r k,w,x,w',h=>by
    simp only[Sem.run]at h;split at h;cases h;exact fZ _ _ _ _ h;cases h
  | .setObj r o k,w,x,w',h=>by
    simp only[Sem.run]at h;split at h;cases h;have:=fZ _ _ _ _ h;exact this;cases h
  | .choose q k,w,x,w',h=>by
    simp only[Sem.run]at h;split at h;exact fZ _ _ _ _ h;have:=fZ _ _ _ _ h;exact BH (Nat.le_succ _) this
  | .sys c k,w,x,w',h=>by
    simp only[Sem.run]at h;have:=fZ _ _ _ _ h;exact BH (zdd w c) this
  | .program k,w,x,w',h=>by simp only[Sem.run]at h;exact fZ _ _ _ _ h
  | .mark m k,w,x,w',h=>by simp only[Sem.run]at h;exact fZ _ _ _ _ h
  | .halt e,w,x,w',h=>by simp only[Sem.run]at h;cases h
end place
end Go.Pm
namespace Go.Pm
variable [aG]
open Go.RowKit (Below)
section
variable{P:Program}{Γ:bM}{nt B:Nat}{w0:World}{h0:Fz}{g:Gh}{σ:St}{a:Act}{w:World}{r:Option Nat}{n i:Nat}{Q:Exit->Act->World->Prop}
theorem BZ{w w':World}{b:Nat}(hB:B≤b)(h1:w'.heap.size=w.heap.size)(h2:∀k,k≠b→w'.heap[k]? = w.heap[k]?)(h3:w'.os=w.os)(h4:w'.tape=w.tape)(h5:w'.output=w.output)(h6:w'.drawn=w.drawn) :
  JW B w w':=⟨⟨h3,h4,h5,by rw[h1];exact jy _,λk hk=>h2 k omY⟩,by rw[h6];exact jy _⟩
theorem vM{t:TypeId}{m b off:Nat}{C:Array Value}{ty:TypeId}{v:Value}(hs:oP P t=some m)(hm:v.cells.size=m)(hb:w.heap[b]? = some (.cells C ty (0,0)))(hle:off+m≤C.size)
    (h1:∀u∈v.cells.toList,u.oneCell'=true):∃w',(storeVar t ⟨b,off,none⟩ v).run P w=.ok () w'/\w'.heap[b]? = some (.cells (spl C.toList off v.cells.toList).toArray ty (0,0)) /\
      w'.heap.size=w.heap.size/\(∀k,k≠b->w'.heap[k]? = w.heap[k]?)/\w'.os=w.os/\w'.tape=w.tape/\w'.output=w.output/\w'.drawn=w.drawn:=by
  obtain⟨w',hr,rest⟩:=xP (P:=P) v.cells.toList off C w hb (by simpa [hm]using hle) h1 off 0 omY;refine⟨w',?_,rest⟩;simp only[storeVar,Sem.run_bind,run_sizeOf hs,Result.andThen_ok,hm,ne_eq,not_true_eq_false,qd2];exact hr
theorem cells_one{d:D1}{v:Value}(h:zS g d v)(ho:d.cells.all BI=true):∀u∈v.cells.toList,u.oneCell'=true:=by
 intro u hu;have hr:=ui h ho;obtain⟨j,hj⟩:=Yi hu;obtain⟨c,hc,hcu⟩:=hr.get' j u hj;exact zaB hcu (Aj.1 ho c (Jy hc))
theorem nM:∀{cs:List Cl}{l:List PV},jO cs=some l→cs=l.map .p
  | [],l,h=>by simp[jO]at h;subst h;rfl
  | .p v::r,l,h=>by
    simp only[jO]at h;split at h;rename_i l' hl;simp only[bG]at h;subst h;rw[nM hl];rfl;cases h
  | .ptr _ _::_,l,h=>by simp[jO]at h
  | .vptr _ _ _ _::_,l,h=>by simp[jO]at h
  | .vec _::_,l,h=>by simp[jO]at h
  | .undef::_,l,h=>by simp[jO]at h
  | .junk::_,l,h=>by simp[jO]at h
  | .dead _::_,l,h=>by simp[jO]at h
theorem zmz(l:List PV):(l.map Cl.p).all BI=true:=by
 induction l with|nil=>rfl|cons v r ih=>simp[BI,ih]
theorem zmA{B e s len:Nat}{v0:Value}{get:Nat→List PV}{k ii kk:Nat}{C:Array Value}{w':World}{l:List PV}{us xs:List Value}
    (hx:w.ownsRow B e s v0 len xs) (hr:∀i,i<len->RL (Rep g.h) (get i) ((xs.drop (i*s)).take s)) (bT:v0.ownBlock=some k) (hi:ii<len) (hk:kk+l.length<=s) (hC:w.heap[k]? = some (.cells C e (0,0)))
    (XW:w'.heap[k]? = some (.cells (spl C.toList (ii*s+kk) us).toArray e (0,0))) (hl:RL (Rep g.h) l us) :
    ∃xs:List Value,w'.ownsRow B e s v0 len xs/\∀i,i<len->RL (Rep g.h) (zA ii kk get l i) ((xs.drop (i*s)).take s):=by
  rcases hx.2 with⟨h1,rfl⟩|⟨k',cap,cur,h1,hB,hg,hn,jV,jw,htk⟩
  exact absurd hi omY;rw [h1]at bT;simp only [Value.ownBlock,bG]at bT;subst bT;rw[hC]at hg;simp only[bG,Obj.cells.injEq]at hg;obtain⟨rfl,_⟩:=hg;have hlen:=hl.length;have hii:ii*s+s<=len*s:=by have:=Qs s (qdf hi);rw[Qv]at this;exact this
  have zrN:len*s<=cap*s:=Qs s hn;have hCs:C.toList.length=cap*s:=by simpa using jw
  refine⟨(spl C.toList (ii*s+kk) us).take (len*s),⟨?_,.inr ⟨k',cap,_,h1,hB,XW,hn,jV,?_,rfl⟩⟩,?_⟩;rw[qdC,lD,hCs];omega;simp[lD,jw];intro j hj;have hjs:j*s+s<=len*s:=by have:=Qs s (qdf hj);rw[Qv]at this;exact this
  have hgl:(get j).length=s:=by
    rw[(hr j hj).length];simp only[qdC,qdD,hx.1];omega
  have hsl:(zA ii kk get l j).length=s:=by unfold zA;split<;>simp[lD,hgl]
  refine RL.of_get ?_ ?_;rw[hsl];simp only[qdC,qdD,lD,hCs];omega;intro q x v hq hvq;have hqs:q<s:=by have:=(ER.1 hq).1;omega
  rw[IV,dH hqs,dqX,IV,dH omY,BR _ _ _ _ (by rw[hCs];omega)]at hvq;have old:∀y,(get j)[q]? = some y->∃v,C.toList[j*s+q]? = some v/\Rep g.h y v:=by
    intro y hy;obtain⟨v,hv,Ql⟩:=(hr j hj).get q y hy;refine⟨v,?_,Ql⟩;rw[IV,dH hqs,dqX,<- htk,IV,dH omY]at hv;exact hv
  unfold zA at hq;split at hq;rename_i hji;have hji:=kY hji;subst hji;rw[BR _ _ _ _ (by rw[hgl];omega)]at hq;by_cases Ye:kk<=q/\q<kk+l.length;rw [dH Ye]at hq;rw[dH (by rw[<- hlen];omega),show j*s+q-(j*s+kk)=q-kk by omega]at hvq;obtain⟨u,hu,hxu⟩:=hl.get _ _ hq;rw[hu]at hvq;simp only[bG]at hvq;rw[<- hvq];exact hxu;rw [dM Ye]at hq;rw[dM (by rw[<- hlen];omega)]at hvq;obtain⟨u,hu,hxu⟩:=old x hq;rw[hu]at hvq;simp only[bG]at hvq;rw[<- hvq];exact hxu;rename_i hji;have hji:=dq4 hji;have EI:¬(ii*s+kk<=j*s+q/\j*s+q<ii*s+kk+us.length):=by
    rw[<- hlen];rcases Nat.lt_or_gt_of_ne hji with h|h
    have:=Qs s (qdf h);rw[Qv]at this;omega;have:=Qs s (qdf h);rw[Qv]at this;omega
  rw[dM EI]at hvq;obtain⟨u,hu,hxu⟩:=old x hq;rw[hu]at hvq;simp only[bG]at hvq;rw[<- hvq];exact hxu
theorem zmB{B L e s b len:Nat}{get:Nat→List PV}{k ii kk:Nat}{C:Array Value}{w':World}{l:List PV}{us:List Value}
    (hv:BP P g w B L e s b len get) (bT:(g.sv L).ownBlock=some k) (hi:ii<len) (hk:kk+l.length<=s) (hC:w.heap[k]? = some (.cells C e (0,0)))
    (XW:w'.heap[k]? = some (.cells (spl C.toList (ii*s+kk) us).toArray e (0,0))) (hl:RL (Rep g.h) l us) (hu:tX (zA ii kk get l)):BP P g w' B L e s b len (zA ii kk get l):=by
  obtain⟨hs,vg,xs,hx,hr⟩:=hv;exact⟨⟨hu,hs.2⟩,vg,zmA hx hr bT hi hk hC XW hl⟩
theorem zaK{ii:Nat}{get:Nat->Nat->List PV}{lU:Nat->List PV}(h:Unv get)(h2:tX lU)(hs:smL (get 0 0) (lU 0)=true):Unv (l7 ii lU get):=by
 have h3:∀i j k,RS (get i j) (lU k):=λi j k=>((h i j 0 0).trans (JK hs (h 0 0 0 0) (h2 0 0))).trans (h2 0 k);intro i j k l;show RS ((match Nat.beq i ii with|true=>lU|false=>get i) j) ((match Nat.beq k ii with|true=>lU|false=>get k) l);cases Nat.beq i ii<;>cases Nat.beq k ii;exact h _ _ _ _;exact h3 _ _ _;exact(h3 _ _ _).symm;exact h2 _ _
theorem Kq:∀L∈bQ .junk,∃o,lk σ.ay L=some o:=λL hL=>by simp[bQ,dw,aY]at hL
def Gm(g g':Gh):Prop:=g'.h=g.h/\g'.bk=g.bk/\g'.sv=g.sv/\∀L i,(∃b,g.iv L i=.map (some b))->g'.iv L i=g.iv L i
theorem zgg{g g':Gh}(H:Gm g g'){c:Cl}{x:Value}(h:iV g c x):iV g' c x:=by
 obtain⟨h1,h2,h3,h4⟩:=H;cases c with
 | p v=>simp only[iV]at h ⊢;rw[h1];exact h
 | ptr L off=>simp only[iV]at h ⊢;rw[h2];exact h
 | vptr L s i k=>simp only[iV]at h ⊢;rw[h3];exact h
 | vec L=>simp only[iV]at h ⊢;rw[h3];exact h
 | mo L=>simp only[iV]at h ⊢;rw[h3];exact h
 | clo f caps=>obtain⟨cv,e,hr⟩:=h;exact⟨cv,e,qw (λ_ _ hp=>by rw[h1];exact hp) (λL _=>by rw[h2]) hr⟩
 | undef=>exact h
 | junk=>trivial
 | dead L=>trivial
theorem zsi{g g':Gh}(H:Gm g g'){cs:List Cl}{vs:List Value}(h:RL (iV g) cs vs):RL (iV g') cs vs:=h.mono λ_ _=>zgg H
theorem zgh{g g':Gh}(H:Gm g g'){d:D1}{x:Value}(h:zS g d x):zS g' d x:=by
 cases d with
 | c y=>exact zgg H h
 | agg cs=>obtain⟨vs,rfl,hr⟩:=h;exact⟨vs,rfl,zsi H hr⟩
theorem zu5{g g':Gh}(H:Gm g g'){d:DV}{x:Value}(h:qH g d x):qH g' d x:=by
 cases d with
 | one y=>exact zgh H h
 | tup ds=>obtain⟨vs,rfl,hr⟩:=h;exact⟨vs,rfl,hr.mono λ_ _=>zgh H⟩
theorem bK.setVec(S:bK P nt B w0 h0 g σ a w){L M te bb e s OB len m ii:Nat}{ln:Nat→Nat}{get:Nat→Nat→List PV}{lU:Nat→List PV}(hL:lk σ.ay L=some (.vt te bb e s OB len ln get ii))
    (hM:lk σ.ay M=some (.vec e s OB m lU)) (iK:L≠M) (hi:ii<len) (hm:0<m) (Ii:Unv (l7 ii lU get)) {k:Nat} {C:Array Value} {w':World} (bT:(g.sv L).ownBlock=some k) (hC:w.heap[k]? = some (.cells C te (0,0)))
    (XW:w'.heap[k]? = some (.cells (C.setIfInBounds ii (g.sv M)) te (0,0))) (qo:∀b,b≠k->w'.heap[b]? = w.heap[b]?) (hb:JW B w w') :
    bK P nt B w0 h0 ⟨g.h,g.bk,g.sv,λX i=>if X=L/\i=ii then g.sv M else g.iv X i⟩ {σ with ay:=(L,.vv te bb e s OB len (l7 ii m ln) (l7 ii lU get))::(M,.gone)::σ.ay} a w':=by
  have oL:=S.obj L _ hL;obtain⟨jr,zKR,zCu,zln,_,vF,IU,IP⟩:=oL;obtain⟨_,_,xsM,hxM,hrM⟩:=S.obj M _ hM;obtain⟨kM,zUW,hvM⟩:∃kM cap,g.sv M=.slice (some ⟨kM,0,none⟩) m cap:=by
    rcases hxM.2 with⟨_,h2⟩|⟨k2,cap,_,h1,_⟩
    omega;exact⟨k2,cap,h1⟩
  have hoM:(g.sv M).ownBlock=some kM:=by rw[hvM];rfl
  have H:Gm g ⟨g.h,g.bk,g.sv,λX i=>if X=L/\i=ii then g.sv M else g.iv X i⟩:=by
    refine⟨rfl,rfl,rfl,λX i hx=>?_⟩;show(if X=L/\i=ii then _ else _)=_;rw[dM];rintro⟨rfl,rfl⟩;obtain⟨b,hx⟩:=hx;exact vF b hx
  have hkB:gy g L (.vt te bb e s OB len ln get ii) k:=.inl bT;have hMB:gy g M (.vec e s OB m lU) kM:=hoM
  have jU:∀X o,lk ((L,AO.vv te bb e s OB len (l7 ii m ln) (l7 ii lU get))::(M,.gone)::σ.ay) X=some o ->
      (X=L/\o=.vv te bb e s OB len (l7 ii m ln) (l7 ii lU get))\/(X=M/\o=.gone)\/(X≠L/\X≠M/\lk σ.ay X=some o):=by
    intro X o h;rw[aS]at h;split at h;rename_i e;simp at h;exact .inl ⟨e.symm,h.symm⟩;rename_i e;rw[aS]at h;split at h;rename_i e2;simp at h;exact .inr (.inl ⟨e2.symm,h.symm⟩);rename_i e2;exact .inr (.inr ⟨λx=>e x.symm,λx=>e2 x.symm,h⟩)
  have xB:∀X o,lk σ.ay X=some o->∃o',lk ((L,AO.vv te bb e s OB len (l7 ii m ln) (l7 ii lU get))::(M,.gone)::σ.ay) X=some o':=by
    intro X o h;rw[aS];split;exact⟨_,rfl⟩;rw [aS];split;exact⟨_,rfl⟩;exact⟨o,h⟩
  have zKT:∀X i,X≠L->(if X=L/\i=ii then g.sv M else g.iv X i)=g.iv X i:=λX i hx=>dM λe=>hx e.1;have zgi:∀i,i≠ii->(if L=L/\i=ii then g.sv M else g.iv L i)=g.iv L i:=λi hx=>dM λe=>hx e.2;have ed:∀X,X≠L->iO g ⟨g.h,g.bk,g.sv,λX i=>if X=L/\i=ii then g.sv M else g.iv X i⟩ X:=λX hx=>⟨rfl,rfl,funext λi=>zKT X i hx⟩;have hMk:kM≠k:=λe=>iK (S.sep L _ k M _ hL hM hkB (by rw[<- e];exact hMB));have zgj:∀b,gy ⟨g.h,g.bk,g.sv,λX i=>if X=L/\i=ii then g.sv M else g.iv X i⟩ L (.vv te bb e s OB len (l7 ii m ln) (l7 ii lU get)) b->gy g L (.vt te bb e s OB len ln get ii) b\/b=kM:=by
    rintro b (lS|⟨i,mV,lS⟩);exact .inl (.inl lS);by_cases e:i=ii;subst e;have lS:(if L=L/\i=i then g.sv M else g.iv L i).ownBlock=some b:=lS;rw[dH ⟨rfl,rfl⟩,hoM]at lS;simp only[bG]at lS;exact .inr lS.symm;have lS:(if L=L∧i=ii then g.sv M else g.iv L i).ownBlock=some b:=lS;rw[zgi i e]at lS;exact .inl (.inr ⟨i,mV,e,lS⟩)
  refine⟨S.dfr,S.size,λt d h=>zu5 H (S.env t d h),?_,?_,?_,?_,S.le0,S.hn,S.below.trans (.of hb),BH S.bs hb.size,λt d h X hX=>?_,?_⟩;intro X o ho;rcases jU X o ho with⟨rfl,rfl⟩|⟨rfl,rfl⟩|⟨n1,n2,ho⟩
  refine⟨⟨Ii,jr.2⟩,zKR,zCu,?_,?_,?_⟩;refine⟨by simp,?_⟩;rcases zln.2 with⟨h1,h2⟩|⟨k',cap,cur,h1,hB,hg,hn,jV,jw,htk⟩
  omega;rw [h1]at bT;simp only [Value.ownBlock,bG]at bT;subst bT;rw[hC]at hg;simp only[bG,Obj.cells.injEq]at hg;obtain⟨rfl,_⟩:=hg;refine .inr ⟨k',cap,_,h1,hB,XW,hn,jV,by simpa using jw,?_⟩;apply dq5;intro j;have hj:=jF (λl=>l[j]?) htk;simp only[IV,dq0]at hj;simp only[Array.toList_setIfInBounds,IV,qjI,dq0];by_cases hjn:j<len*1;have zKU:j<len:=by omega
  rw[dH hjn]at hj ⊢;rw[qjr zKU]at hj ⊢;simp only[OL]at hj ⊢;by_cases e:ii=j;subst e;rw[dH rfl,dH (by simp;omega)];simp;rw [dM e,hj];simp only[true_and];rw[dM (λx=>e x.symm)];rw[dM hjn,dq7 (by simp;omega)];rfl;intro i mV;by_cases e:i=ii;subst e;have e2:l7 i m ln i=m:=by simp[l7]
  have e3:l7 i lU get i=lU:=by simp[l7]
  rw[e2,e3];show(if X=X/\i=i then g.sv M else g.iv X i).oneCell'=true/\(m=0->(if X=X/\i=i then g.sv M else g.iv X i)=_)/\∃xs,w'.ownsRow B _ s (if X=X/\i=i then g.sv M else g.iv X i) m xs/\_;rw[dH ⟨rfl,rfl⟩];refine⟨by rw[hvM];rfl,λh=>absurd h omY,xsM,iY hxM λb lS=>qo b λe=>hMk ?_,hrM⟩;rw[hoM]at lS;simp only[bG]at lS;omega;have hbf:Nat.beq i ii=false:=by cases hq:Nat.beq i ii with|true=>exact absurd (kY hq) e|false=>rfl
  have e2:l7 ii m ln i=ln i:=by simp only[l7,hbf]
  have e3:l7 ii lU get i=get i:=by simp only[l7,hbf]
  rw[e2,e3];show(if X=X/\i=ii then g.sv M else g.iv X i).oneCell'=true/\(ln i=0->(if X=X/\i=ii then g.sv M else g.iv X i)=_)/\∃xs,w'.ownsRow B _ s (if X=X/\i=ii then g.sv M else g.iv X i) (ln i) xs/\_;rw[zgi i e];obtain⟨x1,x2,xs,x3,x4⟩:=IU i mV e;exact⟨x1,x2,xs,iY x3 λb lS=>qo b λe'=>(IP i b mV e lS).1 (by rw[e'];exact bT),x4⟩;intro i b mV lS;have fresh:∀j,j<len->j≠ii->(g.iv X j).ownBlock≠some kM:=λj hj hji e=>iK (S.sep X _ kM M _ hL hM (.inr ⟨j,hj,hji,e⟩) hMB);by_cases e:i=ii;subst e;have lS:(if X=X/\i=i then g.sv M else g.iv X i).ownBlock=some b:=lS;rw[dH ⟨rfl,rfl⟩,hoM]at lS;simp only[bG]at lS;subst lS;refine⟨λh=>hMk ?_,λj hj hjb=>?_⟩;rw[bT]at h;simp only[bG]at h;exact h.symm;by_cases e:j=i;exact e.symm;have hjb:(if X=X∧j=i then g.sv M else g.iv X j).ownBlock=_:=hjb;rw[zgi j e]at hjb;exact(fresh j hj e hjb).elim;have lS:(if X=X∧i=ii then g.sv M else g.iv X i).ownBlock=some b:=lS;rw[zgi i e]at lS;have Ub:=lS;refine⟨(IP i b mV e lS).1,λj hj hjb=>?_⟩;have hjb:(if X=X/\j=ii then g.sv M else g.iv X j).ownBlock=_:=hjb;by_cases e2:j=ii;subst e2;rw[dH ⟨rfl,rfl⟩,hoM]at hjb;simp only[bG]at hjb;subst hjb;exact(fresh i mV e Ub).elim;rw [zgi j e2]at hjb;exact(IP i b mV e lS).2 j hj e2 hjb;trivial
  · cases o with
    | box ty cs =>
      obtain⟨C',hC2,hr⟩:=S.obj X _ ho;refine⟨C',?_,zsi H hr⟩;rw[qo _ λe=>n1 (S.sep X _ k L _ ho hL e hkB)];exact hC2
    | _=>exact jH (S.obj X _ ho) (ed X n1) (λ_ h=>by simp[dJ]at h) (λ_ _ h=>h) λb lS=>qo b λe=>n1 (S.sep X _ b L _ ho hL lS (by rw[e];exact hkB))
  intro X o b ho fP;rcases jU X o ho with⟨rfl,rfl⟩|⟨rfl,rfl⟩|⟨n1,n2,ho⟩
  rcases zgj b fP with h|rfl
  exact S.own _ _ b hL h;exact S.own M _ _ hM hMB;exact fP.elim;rw[fV (ed X n1)]at fP;exact S.own X o b ho fP;intro X o b Y o' ho kN hb1 Ub;rcases jU X o ho with⟨rfl,rfl⟩|⟨rfl,rfl⟩|⟨n1,n2,pz⟩<;>rcases jU Y o' kN with⟨rfl,rfl⟩|⟨rfl,rfl⟩|⟨n1',n2',mZ⟩
  rfl;exact Ub.elim;rw [fV (ed Y n1')]at Ub;rcases zgj b hb1 with h|rfl
  exact S.sep _ _ b Y _ hL mZ h Ub;exact(n2' (S.sep M _ _ Y _ hM mZ hMB Ub).symm).elim;exact hb1.elim;exact hb1.elim;exact hb1.elim;rw [fV (ed X n1)]at hb1;rcases zgj b Ub with h|rfl
  exact S.sep X _ b _ _ pz hL hb1 h;exact(n2 (S.sep X _ _ M _ pz hM hb1 hMB)).elim;exact Ub.elim;rw [fV (ed X n1)]at hb1;rw[fV (ed Y n1')]at Ub;exact S.sep X _ b Y _ pz mZ hb1 Ub;exact S.hw.same λb x EQ=>qo b λe=>by subst e;have:=(S.own L _ b hL hkB).2;rw[EQ]at this;cases this
  obtain⟨o,ho⟩:=S.clE t d h X hX;exact xB X o ho;intro X o ho Y hY;rcases jU X o ho with⟨rfl,rfl⟩|⟨rfl,rfl⟩|⟨n1,n2,ho⟩
  simp[dJ]at hY;simp[dJ]at hY;obtain⟨o',kN⟩:=S.clO X o ho Y hY;exact xB Y o' kN
theorem zde{o:Oper}{t:TypeId}{x y:Operand}{A:aA}(S:bK P nt B w0 h0 g σ a w)(hd:dA nt o.dst=true)(aU:o.op = .store t x y)
    (hA:act P Γ o (dW σ.env) (lk σ.ay)=A) (hs:A.safe):iZ P nt B w0 h0 r n i o A σ a w Q:=by
  simp only[act,aSt,aU]at hA;split at hA;rename_i m L off d jw hx hy;have xH:=(ig S hx).1;simp only[iV]at xH;have hdR:=S.ev y;have hdL:=S.evLab y;rw[hy]at hdR hdL;split at hA;rename_i ty cells hL;obtain⟨C,hC,hr⟩:=S.obj L _ hL;split at hA;rename_i cO;simp only[fH,Ud]at cO;obtain⟨⟨hm,hle⟩,fK⟩:=cO;have hm:=kY hm;subst hA;have TP:=ui hdR fK;have zN:=TP.length;have nG:=hr.length;have hvm:(a.eval y).cells.size=m:=by rw[<- hm,zN];simp
  have hCl:cells.length=C.size:=by rw[nG];simp
  obtain⟨w',cu,hb,XX,qo,h5,h6,h7,h8⟩:=vM (P:=P) (m:=m) (off:=off) (v:=a.eval y) jw hvm hC omY (cells_one hdR fK);have iU:=S.own L _ _ hL rfl
  have S' := S.write (o' := .box ty (spl cells off d.cells)) hL (fun b hb => hb) (BZ iU.1 XX qo h5 h6 h7 h8) (fun b hb => qo b (fun e => hb (by rw [e]; rfl)))
    ⟨_,hb,by simpa using hr.spl TP off⟩ (λM hM=>by
      rcases zaG off M hM with h|h
      exact S.clO L _ hL M h
      · refine hdL M ?_;cases d with|c z=>simpa [D1.cells,bQ,dw]using h|agg cs=>simpa [D1.cells,bQ,dw]using h)
  refine I4 (by simp[aU]) (w':=w') ?_ ⟨g,_,rfl,by rw[fG];exact S'.put hd (d:=.junk) trivial Kq _⟩;simp only[execOp,aU,Sem.run_bind,Instr.storeAt,xH,Instr.sureAddr,Sem.run_pure,Result.andThen_ok,cu];subst hA;exact hs.elim;subst hA;exact hs.elim;rename_i m L s ii kk d jw hx hy;obtain⟨b,bT,xH⟩:=(ig S hx).1;have hdR:=S.ev y;rw[hy]at hdR;split at hA;rename_i e s' OB len get hL;split at hA;rename_i l hl;split at hA;rename_i cO;simp only[fH,Ud]at cO;obtain⟨⟨⟨OA,hm⟩,hle⟩,rf⟩:=cO;have OA:=kY OA;have hm:=kY hm;subst OA;subst hA;have jv:ii<len:=hs;have hcs:=nM hl;have fK:d.cells.all BI=true:=by rw[hcs];exact zmz l
  have TP:=ui hdR fK;have zN:=TP.length;rw[hcs]at TP;have TP:=RL.map_left.1 TP;obtain⟨b',C,fP,⟨cap,lQ⟩,hC,hCs,hgl,_⟩:=uk (S.obj L _ hL) jv;rw[bT]at fP;simp only[bG]at fP;subst fP;have hlc:l.length=(a.eval y).cells.size:=by rw[hcs,qda]at zN;simpa using zN
  obtain⟨w',cu,hb,XX,qo,h5,h6,h7,h8⟩:=vM (P:=P) (v:=a.eval y) jw omY hC (show ii*s+kk+m<=C.size by omega) (cells_one hdR fK);have iU:=S.own L _ _ hL bT;have Ii:=(S.obj L _ hL).1.1;have hu0:=(Ii 0 ii).length;have hvr:=zmB (S.obj L _ hL) bT jv omY hC hb TP (zaC Ii omY (by rw[hm];exact rf) (xN TP));have hnz:nzG (get 0) (zA ii kk get l)=zA ii kk get l:=Yk λj=>by
    have h1:=zaC (i:=ii) Ii (show kk+l.length<=(get 0).length by omega) (by rw[hm];exact rf) (xN TP) (ii+1) j;have h2:zA ii kk get l (ii+1)=get (ii+1):=by unfold zA;rw[show Nat.beq (ii+1) ii=false from Bool.eq_false_iff.2 λh=>by have:=kY h;omega]
    rw[h2]at h1;exact(Ii 0 (ii+1)).trans h1
  rw[hnz];have S':=S.write (o':=.vec e s OB len (zA ii kk get l)) hL (λb hb=>hb) (BZ iU.1 XX qo h5 h6 h7 h8) (λk hk=>qo k (λe=>hk (by rw[e];exact bT))) hvr (λM hM=>by simp[dJ]at hM);refine I4 (by simp[aU]) (w':=w') ?_ ⟨g,_,rfl,by rw[fG];exact S'.put hd (d:=.junk) trivial Kq _⟩;simp only[execOp,aU,Sem.run_bind,Instr.storeAt,xH,Instr.sureAddr,Sem.run_pure,Result.andThen_ok,cu];subst hA;exact hs.elim;subst hA;exact hs.elim;rename_i te bb e s' OB len ln get io hL;split at hA;rename_i M;split at hA;rename_i e2 s2 b2 mm lU hM;split at hA;rename_i cO;simp only[fH,NQ]at cO;obtain⟨⟨⟨h1,h2⟩,h3⟩,h4⟩:=cO;have h1:=kY h1;have h2:=kY h2;have h3:=kY h3;have h4:=dq4 h4;subst h1 h2 h3;split at hA;rename_i hq;obtain⟨rfl,rfl,rfl,rf⟩:=hq;subst hA;have hnz:zfV (get 0 0) (l7 ii lU get)=l7 ii lU get:=zmn λi j=>by
    have h1:=zaK (ii:=ii) (S.obj L _ hL).1.1 (S.obj M _ hM).1.1 rf (ii+1) 0 i j;have h2:l7 ii lU get (ii+1)=get (ii+1):=by unfold l7;rw[show Nat.beq (ii+1) ii=false from Bool.eq_false_iff.2 λh=>by have:=kY h;omega]
    rw[h2]at h1;exact((S.obj L _ hL).1.1 0 0 (ii+1) 0).trans h1
  rw[hnz];have jv:ii<len/\ii=io/\0<mm:=hs;obtain⟨zIn,rfl,zRP⟩:=jv;obtain⟨b',C,cap,lQ,hC,qW⟩:=UD (S.obj L _ hL) zIn;obtain⟨_,hB,zIh⟩:∃_:True,B<=b'/\ii<C.size:=⟨trivial,(S.own L _ b' hL (.inl (by rw[lQ];rfl))).1,(X5.1 qW).1⟩;rw[lQ]at bT;simp only[Value.ownBlock,bG]at bT;subst bT;have Ql:a.eval y=g.sv M/\_:=hdR;have zN:(a.eval y).cells = #[g.sv M]:=by
    obtain⟨_,_,xsM,hxM,_⟩:=S.obj M _ hM;rw[Ql.1];rcases hxM.2 with⟨h1,_⟩|⟨_,_,_,h1,_⟩<;>rw[h1]<;>rfl
  have hoc:(g.sv M).oneCell'=true:=by
    obtain⟨_,_,xsM,hxM,_⟩:=S.obj M _ hM;rcases hxM.2 with⟨h1,_⟩|⟨_,_,_,h1,_⟩<;>rw[h1]<;>rfl
  obtain⟨w',cu,hb,XX,qo,h5,h6,h7,h8⟩:=vM (P:=P) (m:=1) (off:=ii*1+0) (v:=a.eval y) jw (by rw[zN];rfl) hC omY (by rw[zN];simpa using hoc);have lS:w'.heap[b']? = some (.cells (C.setIfInBounds ii (g.sv M)) te (0,0)):=by
    rw[hb,zN];congr 2;simp only[spl];apply Array.toList_inj.1;simp
  have S':=S.setVec hL hM h4 zIn zRP (zaK (S.obj L _ hL).1.1 (S.obj M _ hM).1.1 rf) (by rw[lQ];rfl) hC lS qo (BZ hB XX qo h5 h6 h7 h8);refine I4 (by simp[aU]) (w':=w') ?_ ⟨_,_,rfl,by rw[fG];exact S'.put hd (d:=.junk) trivial Kq _⟩;simp only[execOp,aU,Sem.run_bind,Instr.storeAt,xH,Instr.sureAddr,Sem.run_pure,Result.andThen_ok,cu];subst hA;exact hs.elim;subst hA;exact hs.elim;subst hA;exact hs.elim;subst hA;exact hs.elim;subst hA;exact hs.elim;subst hA;exact hs.elim
end
end Go.Pm
namespace Go.Pm
variable [aG]
open Go.RowKit (Below)
section
variable{P:Program}{Γ:bM}{nt B:Nat}{w0:World}{h0:Fz}{g:Gh}{σ:St}{a:Act}{w:World}{r:Option Nat}{n i:Nat}{Q:Exit->Act->World->Prop}
theorem GK{ob:Nat→Option AO}:∀{cs:List Cl}{l:List PV}{u:lY},jg ob cs=some (l,u)→cs.all BI=true∧l.length=cs.length
  | [],l,u,h=>by simp[jg]at h;rw[h.1];exact⟨rfl,rfl⟩
  | c::cs,l,u,h=>by
    simp only[jg]at h;split at h;rename_i v u1 l2 u2 h1 h2;simp only[bG,fJ]at h;rw[<- h.1];obtain⟨h3,h4⟩:=GK h2;refine⟨?_,by simp[h4]⟩;have:BI c=true:=by
      unfold zx at h1;split at h1;rfl;rfl;cases h1
    simp[this,h3];cases h
theorem Kr{ob:Nat->Option AO}{ev:Operand->DV}{s:Nat}:∀(parts:List (Nat×Operand))(i:Nat)(ls:List (List PV))(u:lY)(iW:List Nat),
  jd ob ev s i parts=some (ls,u,iW)->dY ob u
 | [],i,ls,u,iW,h=>by simp[jd]at h;rw[h.2.1];exact dY.nil ob
 | (j,o)::r,i,ls,u,iW,h=>by
  simp only[jd]at h;split at h;split at h;split at h;rename_i h1 h2;split at h;simp only [bG,fJ]at h;rw[<- h.2.1];exact(J3 h1).append (Kr r _ _ _ _ h2);cases h;cases h;cases h;cases h
theorem Kt{ob:Nat→Option AO}{ev:Operand→DV}{ρ:Operand→Value}{s:Nat}{u':lY}{h':Fz}(Qo:∀o,qH g (ev o) (ρ o))(F:eQ g ob u' h') :
    ∀(parts:List (Nat×Operand))(i:Nat)(ls:List (List PV))(u:lY)(iW:List Nat)(C:Array Value)(N:Nat),jd ob ev s i parts=some (ls,u,iW)->(∀y∈u,y∈u') ->
      C.size=N*s->i+ls.length<=N ->
      ∃ D:Array Value,Instr.fill (λ k=>some (k * s,s)) C (parts.map λ x=>(x.1,ρ x.2))=some D/\D.size=C.size/\(∀ q,q < i * s->D[q]? = C[q]?) /\
        ∀k l,ls[k]? = some l->RL (Rep h') l ((D.toList.drop ((i+k)*s)).take s)
  | [],i,ls,u,iW,C,N,h,hu,hC,hN=>by
    simp[jd]at h;refine⟨C,rfl,rfl,λ_ _=>rfl,?_⟩;intro k l hk;rw[h.1]at hk;simp at hk
  | (j,o)::r,i,ls,u,iW,C,N,h,hu,hC,hN=>by
    have hd:=Qo o;simp only[jd]at h;split at h;rename_i IR;have IR:=kY IR;subst IR;split at h;rename_i d he;rw[he]at hd;split at h;rename_i l1 u1 ls1 us1 zCx h1 h2;split at h;rename_i hlen;have hlen:=kY hlen;simp only[bG,fJ]at h;obtain⟨hls,Qm,_⟩:=h;subst hls;rw[<- Qm]at hu;obtain⟨fK,hll⟩:=GK h1;have TP:=ui hd fK;have zN:=TP.length;have zfo:=F.repL0 h1 (λy hy=>hu y (dG.2 (.inl hy))) TP;have jI:(ρ o).cells.size=s:=by
      have:(ρ o).cells.toList.length=(ρ o).cells.size:=by simp
      omega
    simp only[xm]at hN;have hb:i*s+s<=N*s:=by have:=Qs s (show i+1<=N by omega);rw[Qv]at this;exact this
    obtain ⟨D, hD, hDs, zai, IU⟩ := Kt Qo F r (i + 1) ls1 us1 zCx (spl C.toList (i * s) (ρ o).cells.toList).toArray N h2 (fun y hy => hu y (dG.2 (.inr hy)))
      (by simp[lD,hC]) omY
    have jw:(spl C.toList (i*s) (ρ o).cells.toList).toArray.size=C.size:=by simp[lD]
    have zr2:∀q,(spl C.toList (i*s) (ρ o).cells.toList).toArray[q]? = if i*s<=q/\q<i*s+s then(ρ o).cells.toList[q-i*s]? else C[q]?:=by
      intro q;simp only[jqL];rw[BR _ _ _ _ (by simp[jI,hC];omega)];simp[jI]
    refine⟨D,?_,hDs.trans jw,?_,?_⟩;simp only [nU,Instr.fill];have h3:¬((decide ((ρ o).cells.size≠s)||decide (i*s+(ρ o).cells.size>C.size))=true):=by simp[jI,hC];omega
    rw[dM h3,<- hD];refine jF (λz=>Instr.fill _ z _) ?_;have:=E8 (i*s) (ρ o).cells.toList 0 C;rw[qdQ]at this;rw[<- this];cases(ρ o).cells;simp;intro q hq;rw[zai q (by rw[Qv];omega),zr2,dM omY]
    · intro k l hk;cases k with
      | zero =>
        simp only[qdp,bG]at hk;subst hk;have e:(D.toList.drop ((i+0)*s)).take s=(ρ o).cells.toList:=by
          apply dq5;intro q;by_cases hq:q<s;rw [IV,dH hq,dqX,qdQ];have:=zai (i*s+q) (by rw[Qv];omega);rw[zr2,dH omY,show i*s+q-i*s=q by omega]at this;simpa using this;rw [IV,dM hq];symm;apply dq7;simp[jI];omega
        rw[e];exact zfo
      | succ k =>
        have:=IU k l (by simpa using hk);rwa[show i+1+k=i+(k+1)by omega]at this
    cases h;cases h;cases h;cases h
theorem Ku(ls:List (List PV))(k:Nat)(h:k<ls.length):ls[k]? = some (Am ls k):=by
 unfold Am;split;simp at h;rename_i c;simp at h;subst h;rfl;rename_i c r _;have:∃x,(c::r)[k]? = some x:=⟨_,Ai h⟩;obtain⟨x,hx⟩:=this;simp only[hx]
theorem iP{e:TypeId}{z:List Cl}(hz:gu P e=some z){ie:TypeInfo}(hi:P.info? e=some ie):∃v,ie.zero=some v/\v.cells.size=ie.size:=by
 obtain⟨i',v,h1,h2,h3⟩:=zc4 hz;rw[hi]at h1;simp only[bG]at h1;subst h1;exact⟨v,h2,h3⟩
theorem Kv{o:Oper}{t:TypeId}{m:Nat}{parts:Array (Nat×Operand)}{A:aA}(S:bK P nt B w0 h0 g σ a w)(hd:dA nt o.dst=true)(aU:o.op = .buildSlice t m parts)
    (hA:act P Γ o (dW σ.env) (lk σ.ay)=A) (hs:A.safe):iZ P nt B w0 h0 r n i o A σ a w Q:=by
  simp only[act,aBs,aU]at hA;split at hA;rename_i e hu;split at hA;rename_i ie hi;split at hA;rename_i ls u iW hp;split at hA;rename_i z dst cO hz Gw;split at hA;rename_i gB;simp only[fH,Ud]at cO;obtain⟨⟨⟨hm,zRO⟩,jr⟩,rf⟩:=cO;have hm:=kY hm;subst hA;obtain⟨zv,Gx,zJ⟩:=iP hz hi;have fK:=Kr _ _ _ _ _ hp;obtain⟨h',S1,F⟩:=S.freeze fK;have jw:oP P e=some ie.size:=by simp[oP,hi]
  obtain⟨D,hD,hDs,_,IU⟩:=Kt (λx=>S.ev x) F parts.toList 0 ls u iW ((Array.range (m*ie.size)).map (zv.cells[· % zv.cells.size]!)) m hp (λ_ h=>h) (by simp) omY;have zmC:D.size=m*ie.size:=by rw[hDs];simp
  have hmm:m<=1000000:=BH (Nat.le_mul_of_pos_right m jr) zRO;let w':=w.alloc (.cells D e);have cu:(execOp a.eval o).run P w=.ok (.value (.slice (some ⟨w.heap.size,0,none⟩) m m)) w':=by
    simp only[execOp,aU,Instr.buildSlice,Sem.run_bind,run_underlying hu,Result.andThen_ok,run_sizeOf jw];rw[Sem.run_ite,dM omY];by_cases h00:m*ie.size=0;have hm0:m=0:=by
      rcases Nat.mul_eq_zero.1 h00 with h|h
      exact h;omega
    subst hm0;have hpn:parts.toList=[]:=by
      cases TY:parts.toList with
      | nil=>rfl
      | cons x xs =>
        rw[TY]at hp;obtain⟨j,q⟩:=x;simp only[jd]at hp;split at hp;split at hp;split at hp;split at hp;simp only [bG,fJ]at hp;rw[<- hp.1]at hm;simp at hm;cases hp;cases hp;cases hp;cases hp
    have hDe:D = #[]:=by apply Array.eq_empty_of_size_eq_zero;simp[zmC]
    rw[dH (by simp)];simp only[Sem.run_bind,Sem.run_pure,Result.andThen_ok,qjh,hpn,qdR,Instr.fill];simp only[hDe,newRow,jqM,Sem.run_bind,run_newObj,Result.andThen_ok,Sem.run_pure,w'];rw[show(Array.range 0) = #[]from rfl,List.map_toArray];rfl;rw [dM h00];simp only[Sem.run_bind,kU hi Gx,Sem.run_pure,Result.andThen_ok,qjh];rw[hD];simp[w',newRow]
  have hnz:nzG (Am (ls.map (zB P e)) 0) (Am (ls.map (zB P e)))=Am (ls.map (zB P e)):=Yk λi=>Uk (λc hc=>by
    obtain⟨c,hc,rfl⟩:=rY.1 hc;obtain⟨k,hk⟩:=Yi ‹c∈ls›;exact xN (uf (IU k _ hk))) rf 0 i
  rw[hnz];have zgk:BP P ((⟨h',g.bk,g.sv,g.iv⟩:Gh).setSv dst (.slice (some ⟨w.heap.size,0,none⟩) m m)) w' B dst e ie.size ie.bytes m (Am (ls.map (zB P e))):=by
    refine⟨⟨Uk (λc hc=>?_) rf,jr⟩,⟨ie,zv,hi,rfl,rfl,Gx,zJ⟩,D.toList,?_,?_⟩;obtain⟨c,hc,rfl⟩:=rY.1 hc;obtain⟨k,hk⟩:=Yi ‹c∈ls›;exact xN (uf (IU k _ hk));rw [show((⟨h',g.bk,g.sv,g.iv⟩:Gh).setSv dst (.slice (some ⟨w.heap.size,0,none⟩) m m)).sv dst = .slice (some ⟨w.heap.size,0,none⟩) m m by simp [Gh.setSv]];refine⟨by simpa using zmC,.inr ⟨w.heap.size,m,D,rfl,S.bs,heap_alloc_new w _,jy _,?_,zmC,?_⟩⟩;simp only[maxLen];omega;rw[<- zmC,<- qd3,List.take_length];intro k hk;have:=IU k _ (Ku ls k omY);rw[NR]at this;have e2:Am (ls.map (zB P e)) k=zB P e (Am ls k):=by
      have h1:=Ku (ls.map (zB P e)) k (by rw[qda];omega);rw[dq0,Ku ls k omY,OL,bG]at h1;exact h1.symm
    rw[e2];exact uf this
  have zSx:lk (u++σ.ay) dst=none:=by
    rw[gX];cases hl:lk u dst with
    | none=>exact gB
    | some x =>
      have:=fK _ (eU hl);rcases this with⟨_,_,_,_,_,h5,_⟩|⟨_,_,_,_,h5,_⟩|⟨_,_,_,_,_,_,_,_,h5,_⟩<;>(simp only at h5;rw[gB]at h5;cases h5)
  have S2:=S1.newVec (t:=dst) (w':=w') zSx ⟨(Below.refl B w).alloc S.bs _,jy _⟩ (λb hb=>heap_alloc_old w _ b hb) (λb hb=>by simp[Value.ownBlock]at hb;omega) zgk;refine oW (by simp[aU]) cu ⟨(⟨h',g.bk,g.sv,g.iv⟩:Gh).setSv dst (.slice (some ⟨w.heap.size,0,none⟩) m m),σ.upd i o.dst (wr iW++[(dst,true)]) (.cl (.vec dst)) ((dst,.vec e ie.size ie.bytes m (Am (ls.map (zB P e))))::u) [],rfl,?_⟩;rw[fG];refine S2.put (v:=.slice (some ⟨w.heap.size,0,none⟩) m m) hd (d:=.cl (.vec dst)) ?_ ?_ _;simp[qH,zS,iV,Gh.setSv,Value.oneCell'];intro L hL;simp[bQ,dw,aY]at hL;subst hL;exact⟨_,by rw[aS,dH rfl]⟩;subst hA;exact hs.elim;subst hA;exact hs.elim;subst hA;exact hs.elim;subst hA;exact hs.elim;subst hA;exact hs.elim
end
end Go.Pm
namespace Go.Pm
variable [aG]
open Go.RowKit (Below)
theorem ou{α:Type}{f:α->α}{l:List (Nat×α)}{k:Nat}:lk (kills f l) k=(lk l k).map f:=by
 induction l with
 | nil=>rfl
 | cons x l ih =>
  obtain⟨j,a⟩:=x;rw[kills,aS,aS];split;rfl;exact ih
section
variable{P:Program}{Γ:bM}{nt B:Nat}{w0:World}{h0:Fz}{g:Gh}{σ:St}{a:Act}{w:World}{r:Option Nat}{n i:Nat}{Q:Exit->Act->World->Prop}
theorem zaL{l:List Nat}{g':Gh}(hh:jX g.h g'.h)(rX:∀M,g'.bk M=g.bk M)(hs:∀M,M∉l->iO g g' M){c:Cl}{x:Value}(h:iV g c x):iV g' (eH l c) x:=by
 cases c with
 | p v=>exact Rep.mono hh h
 | ptr M off=>simp only[eH,iV]at h ⊢;rw[rX M];exact h
 | vptr M s k q =>
  show iV g' (match l.contains M with|true=>.dead M|false=>.vptr M s k q) x;cases hM:l.contains M with
  | true=>trivial
  | false =>
   have iK:M∉l:=by simpa using hM
   simpa [iV,(hs M iK).2.1]using h
 | vec M =>
  show iV g' (match l.contains M with|true=>.dead M|false=>.vec M) x;cases hM:l.contains M with
  | true=>trivial
  | false =>
   have iK:M∉l:=by simpa using hM
   simpa [iV,(hs M iK).2.1]using h
 | mo M =>
  show iV g' (match l.contains M with|true=>.dead M|false=>.mo M) x;cases hM:l.contains M with
  | true=>trivial
  | false =>
   have iK:M∉l:=by simpa using hM
   simpa [iV,(hs M iK).2.1]using h
 | clo f caps=>obtain⟨cv,e,hr⟩:=h;exact⟨cv,e,qw (λ_ _=>Rep.mono hh) (λM _=>rX M) hr⟩
 | undef=>exact h
 | junk=>trivial
 | dead M=>trivial
theorem Cb{l:List Nat}{g':Gh}(hh:jX g.h g'.h)(rX:∀M,g'.bk M=g.bk M)(hs:∀M,M∉l→iO g g' M):∀{cs:List Cl}{vs:List Value},RL (iV g) cs vs→RL (iV g') (cs.map (eH l)) vs|[],[],_=>trivial|[],_::_,h=>h.elim|_::_,[],h=>h.elim|_::_,_::_,h=>⟨zaL hh rX hs h.1,Cb hh rX hs h.2⟩
theorem UK{l:List Nat}{g':Gh}(hh:jX g.h g'.h)(rX:∀M,g'.bk M=g.bk M)(hs:∀M,M∉l->iO g g' M){d:D1}{x:Value}(h:zS g d x):zS g' (fE l d) x:=by
 cases d with
 | c y=>exact zaL hh rX hs h
 | agg cs=>obtain⟨vs,rfl,hr⟩:=h;exact⟨vs,rfl,Cb hh rX hs hr⟩
theorem O5{l:List Nat}{g':Gh}(hh:jX g.h g'.h)(rX:∀M,g'.bk M=g.bk M)(hs:∀M,M∉l→iO g g' M):∀{cs:List D1}{vs:List Value},RL (zS g) cs vs→RL (zS g') (cs.map (fE l)) vs|[],[],_=>trivial|[],_::_,h=>h.elim|_::_,[],h=>h.elim|_::_,_::_,h=>⟨UK hh rX hs h.1,O5 hh rX hs h.2⟩
theorem zaM{l:List Nat}{g':Gh}(hh:jX g.h g'.h)(rX:∀M,g'.bk M=g.bk M)(hs:∀M,M∉l->iO g g' M){d:DV}{x:Value}(h:qH g d x):qH g' (fU l d) x:=by
 cases d with
 | one y=>exact UK hh rX hs h
 | tup ds=>obtain⟨vs,rfl,hr⟩:=h;exact⟨vs,rfl,O5 hh rX hs hr⟩
theorem O6{l:List Nat}{c:Cl}:∀M∈aY (eH l c),M∈aY c:=by
 intro M hM;cases c with
 | vec K =>
  have hM:M∈aY (match l.contains K with|true=>.dead K|false=>.vec K):=hM;cases h:l.contains K with|true=>rw[h]at hM;exact hM|false=>rw[h]at hM;exact hM
 | vptr K s k q =>
  have hM:M∈aY (match l.contains K with|true=>.dead K|false=>.vptr K s k q):=hM;cases h:l.contains K with|true=>rw[h]at hM;exact hM|false=>rw[h]at hM;exact hM
 | mo K =>
  have hM:M∈aY (match l.contains K with|true=>.dead K|false=>.mo K):=hM;cases h:l.contains K with|true=>rw[h]at hM;exact hM|false=>rw[h]at hM;exact hM
 | _=>exact hM
theorem O7{l:List Nat}{cs:List Cl}:∀M∈(cs.map (eH l)).flatMap aY,M∈cs.flatMap aY:=by
 intro M hM;simp only[jJ,rY]at hM ⊢;obtain⟨_,⟨c,hc,rfl⟩,hM⟩:=hM;exact⟨c,hc,O6 M hM⟩
theorem Kw{l:List Nat}{d:D1}:∀M∈dw (fE l d),M∈dw d:=by
 cases d with|c y=>exact O6|agg cs=>exact O7
theorem O8{l:List Nat}{d:DV}:∀M∈bQ (fU l d),M∈bQ d:=by
 cases d with
 | one y=>exact Kw
 | tup ds =>
  intro M hM;simp only[fU,bQ,jJ,rY]at hM ⊢;obtain⟨_,⟨d,hd,rfl⟩,hM⟩:=hM;exact⟨d,hd,Kw M hM⟩
theorem O9{l:List Nat}{o:AO}:∀M∈dJ (dO l o),M∈dJ o:=by
 cases o with|box ty cs=>exact O7|_=>exact λ_ h=>h
theorem bK.regrow(S:bK P nt B w0 h0 g σ a w){L:Nat}{o0 o':AO}{g':Gh}{w':World}{gs:List (Nat×AO)}{row:Option Nat}(hL:lk σ.ay L=some o0)
    (hh:g'.h=g.h) (rX:∀M,g'.bk M=g.bk M) (hs:∀M,M≠L->iO g g' M) (hgs:∀x∈gs,x.2=.gone/\x.1≠L)
    (hg:GrB w w' row) (zln:∀k,row=some k->gy g L o0 k)
    (bT:∀k,gy g' L o' k->gy g L o0 k\/w.heap.size<=k\/∃T oT,(T,.gone)∈gs/\lk σ.ay T=some oT/\gy g T oT k)
    (hv:NS P g' w' B L o') (zK:dJ o'=[]) (log:List (Nat×Nat×Nat)) :
    bK P nt B w0 h0 g' ⟨kills (fU [L]) σ.env,(L,o')::(gs++kills (dO [L]) σ.ay),log⟩ a w':=by
  have jU:∀M x,lk ((L,o')::(gs++kills (dO [L]) σ.ay)) M=some x->(M=L/\x=o')\/x=.gone\/(M≠L/\(M,.gone)∉gs/\∃o,lk σ.ay M=some o/\x=dO [L] o):=by
    intro M x h;rw[aS]at h;split at h;rename_i e;simp only[bG]at h;exact .inl ⟨e.symm,h.symm⟩
    · rename_i e;rw[gX]at h;cases hgM:lk gs M with
      | some y =>
        rw[hgM]at h;simp only[bG]at h;subst h;exact .inr (.inl (hgs _ (eU hgM)).1)
      | none =>
        rw[hgM]at h;simp only[]at h;rw[ou]at h;obtain⟨o,ho,rfl⟩:=Yh.1 h;exact .inr (.inr ⟨λe'=>e e'.symm,QI hgM _,o,ho,rfl⟩)
  have xB:∀M o,lk σ.ay M=some o->∃x,lk ((L,o')::(gs++kills (dO [L]) σ.ay)) M=some x:=by
    intro M o h;rw[aS];split;exact⟨_,rfl⟩
    · rw [gX];cases lk gs M with|some y=>exact⟨y,rfl⟩|none=>rw[ou,h];exact⟨_,rfl⟩
  have Ky:∀M o,M≠L->gy g' M (dO [L] o)=gy g M o:=by
    intro M o iK;have:=hs M iK;funext k;cases o<;>simp[dO,gy,this.1,this.2.1,this.2.2]
  have hold:∀k,k<w.heap.size->¬gy g L o0 k->w'.heap[k]? = w.heap[k]?:=λk hk iK=>hg.block k hk (λe=>iK (zln k e.symm));have NV:Hw g.h w':=S.hw.same λk o hk=>hold k (uj S.hw hk) (λe=>by have:=(S.own L o0 k hL e).2;rw[this]at hk;cases hk);have qV:JW B w w':=⟨⟨hg.os,hg.tape,hg.output,hg.size,λk hk=>hold k (qdi hk S.bs) (λe=>by have:=(S.own L o0 k hL e).1;omega)⟩,hg.drawn⟩;have TL:∀k,w.heap.size<=k->B<=k/\g.h k=none:=λk hk=>by
    refine⟨BH S.bs hk,?_⟩;cases hh:g.h k with|none=>rfl|some x=>exact absurd (uj S.hw hh) omY
  refine⟨by rw[hh];exact S.dfr,S.size,?_,?_,?_,?_,by rw[hh];exact NV,by rw[hh];exact S.le0,by rw[hh];exact S.hn,S.below.trans (.of qV),BH S.bs hg.size,?_,?_⟩;intro t d ht;rw[ou]at ht;obtain⟨d',fD,rfl⟩:=Yh.1 ht;exact zaM (by rw[hh];exact λ_ _ h=>h) rX (λM hM=>hs M (by simpa using hM)) (S.env t d' fD);intro M x hx;rcases jU M x hx with⟨rfl,rfl⟩|rfl|⟨iK,hng,o,ho,rfl⟩
  exact hv;trivial
  · have Jw:∀k,gy g M o k->w'.heap[k]? = w.heap[k]?:=λk hk =>
      hold k (gZ (S.obj M o ho) hk) (λe=>iK (S.sep M o k L _ ho hL hk e))
    have hr:=S.obj M o ho;have hsM:=hs M iK;have hle:jX g.h g'.h:=by rw[hh];exact λ_ _ h=>h
    cases o with
    | box ty cs =>
      obtain⟨C,hC,hr⟩:=hr;exact⟨C,by rw[rX M,Jw _ rfl];exact hC,Cb (by rw[hh];exact λ_ _ h=>h) rX (λM hM=>hs M (by simpa using hM)) hr⟩
    | fbox cs =>
      obtain⟨C,ty,fr,hC,hr⟩:=hr;exact⟨C,ty,fr,by rw[hh,rX M];exact hC,by rw[hh];exact hr⟩
    | vec e' s' b' m2 lU=>exact O1 hr hsM.2.1 hle Jw
    | fvec s' m2 lU =>
      simp only[dO,NS]at hr ⊢;rw[hsM.2.1,hh];exact hr
    | vv te bb e' s' b' m2 ln2 lU=>exact Uy hr hsM hle Jw
    | vt te bb e' s' b' m2 ln2 lU o2=>exact Uz hr hsM hle Jw
    | mo kt vt q m2 F =>
      obtain⟨es,clock,hC,hr⟩:=hr;exact⟨es,clock,by rw[hsM.2.1,Jw _ rfl];exact hC,hr⟩
    | gone=>trivial
  intro M x k hx hk;rw[hh];rcases jU M x hx with⟨rfl,rfl⟩|rfl|⟨iK,hng,o,ho,rfl⟩
  rcases bT k hk with h|h|⟨T,oT,_,hT,h⟩
  exact S.own M o0 k hL h;exact TL k h;exact S.own T oT k hT h;exact hk.elim;rw [Ky M o iK]at hk;exact S.own M o k ho hk;intro M x k M' x' hx xH hk je;have Qn:∀M o,lk σ.ay M=some o->M≠L->(M,.gone)∉gs->gy g M o k->gy g' L o' k->False:=by
    intro M o ho iK hng hk je;rcases bT k je with h|h|⟨T,oT,hT,hT2,h⟩
    exact iK (S.sep M o k L _ ho hL hk h);exact absurd (gZ (S.obj M o ho) hk) omY;exact hng (by rw[S.sep M o k T oT ho hT2 hk h];exact hT)
  rcases jU M x hx with⟨rfl,rfl⟩|rfl|⟨iK,hng,o,ho,rfl⟩<;>rcases jU M' x' xH with⟨rfl,rfl⟩|rfl|⟨zfq,zKV,o2,pz,rfl⟩
  rfl;exact je.elim;rw [Ky M' o2 zfq]at je;exact(Qn M' o2 pz zfq zKV je hk).elim;exact hk.elim;exact hk.elim;exact hk.elim;rw [Ky M o iK]at hk;exact(Qn M o ho iK hng hk je).elim;exact je.elim;rw [Ky M o iK]at hk;rw [Ky M' o2 zfq]at je;exact S.sep M o k M' o2 ho pz hk je;intro t d ht M hM;rw[ou]at ht;obtain⟨d',fD,rfl⟩:=Yh.1 ht;obtain⟨o,ho⟩:=S.clE t d' fD M (O8 M hM);exact xB M o ho;intro M x hx N hN;rcases jU M x hx with⟨rfl,rfl⟩|rfl|⟨iK,hng,o,ho,rfl⟩
  rw[zK]at hN;simp at hN;simp[dJ]at hN;obtain⟨o2,pz⟩:=S.clO M o ho N (O9 N hN);exact xB N o2 pz
theorem bK.grow(S:bK P nt B w0 h0 g σ a w){L e s b m m':Nat}{get get':Nat→List PV}{v':Value}{w':World}{dst:Option Nat}(hL:lk σ.ay L=some (.vec e s b m get))(hd:dA nt dst=true)
    (hg:GrB w w' (g.sv L).ownBlock) (TY:v'.ownBlock=(g.sv L).ownBlock\/v'.ownBlock=some w.heap.size\/v'.ownBlock=none) (hv:BP P (g.setSv L v') w' B L e s b m' get') (h1:v'.oneCell'=true) (log:List (Nat×Nat×Nat)) :
    bK P nt B w0 h0 (g.setSv L v') ⟨Yt dst (.cl (.vec L)) (kills (fU [L]) σ.env),(L,.vec e s b m' get')::kills (dO [L]) σ.ay,log⟩ (a.put dst v') w':=by
  have lQ:(g.setSv L v').sv L=v':=by simp[Gh.setSv]
  have S1 := S.regrow (o' := .vec e s b m' get') (g' := g.setSv L v') (gs := []) (row := (g.sv L).ownBlock) hL rfl (fun _ => rfl) JZ (fun x hx => by simp at hx) hg (fun k hk => hk)
    (λk hk=>by
      simp only[gy,lQ]at hk;rcases TY with h|h|h
      exact .inl (by show(g.sv L).ownBlock=some k;rw[<- h];exact hk);rw[h]at hk;simp only[bG]at hk;exact .inr (.inl omY);rw[h]at hk;cases hk) hv rfl log
  refine S1.put hd (d:=.cl (.vec L)) (v:=v') ⟨lQ.symm,h1⟩ ?_ log;intro M hM;simp[bQ,dw,aY]at hM;subst hM;exact⟨_,by rw[aS,dH rfl]⟩
def zCy(w:World)(v:Value)(m s:Nat)(news:List Value):Prop :=
 (m=0/\(v=.slice none 0 0\/∃a c,v=.slice (some a) 0 c)/\news=[])\/∃(b o cap:Nat),v=.slice (some ⟨b,o,none⟩) m cap/\news.length=m*s/\(∀j u,news[j]? = some u->w.cell? ⟨b,o+j,none⟩=some u)/\(∀u∈news,u.oneCell'=true)
def UL(g:Gh)(w:World)(v:Value)(m s:Nat)(new:Nat->List PV):Prop :=
 (m=0/\(v=.slice none 0 0\/∃a c,v=.slice (some a) 0 c))\/∃(b o cap:Nat)(news:List Value),v=.slice (some ⟨b,o,none⟩) m cap/\news.length=m*s/\(∀j u,news[j]? = some u->w.cell? ⟨b,o+j,none⟩=some u) /\
  (∀u∈news,u.oneCell'=true)/\∀k,k<m->RL (Rep g.h) (new k) ((news.drop (k*s)).take s)
theorem src_of{b o cap m s:Nat}{C:Array Value}{ty:TypeId}{fr:Nat×Nat}{new:Nat→List PV}{v:Value}(hs:0<s)(hv:v = .slice (some ⟨b,o,none⟩) m cap)(hb:w.heap[b]? = some (.cells C ty fr))
    (hlen:∀k,k<m->(new k).length=s) (IU:∀k j x,k<m->(new k)[j]? = some x->∃u,C[o+k*s+j]? = some u/\Rep g.h x u):UL g w v m s new:=by
  refine .inr ⟨b,o,cap,(List.range (m*s)).map λq=>C.getD (o+q) undef,hv,by simp,?_,?_,?_⟩
  all_goals
    have at_:∀q,q<m*s->∃x u,(new (q/s))[q%s]? = some x/\C[o+q]? = some u/\Rep g.h x u:=by
      intro q hq;have hk:q/s<m:=qjV (by rw[qdz];exact hq);have hj:q%s<s:=Nat.mod_lt _ hs;have hx:(new (q/s))[q%s]? = some ((new (q/s))[q%s]'(by rw[hlen _ hk];exact hj)):=Ai _;obtain⟨u,hu,hxu⟩:=IU _ _ _ hk hx;refine⟨_,u,hx,?_,hxu⟩;rw[show o+q=o+q/s*s+q%s by have:=jqf q s;rw[qdz]at this;omega];exact hu
  intro j u hj;have hjm:j<m*s:=by have:=(ER.1 hj).1;simpa using this
  obtain⟨x,u',_,hu,_⟩:=at_ j hjm;rw[cell_of hb];simp[hjm]at hj;rw[hu]at hj ⊢;simpa using hj;intro u hu;simp only[rY,Ak]at hu;obtain⟨q,hq,rfl⟩:=hu;obtain⟨x,u',_,hu,hxu⟩:=at_ q hq;rw[yP,hu];exact hxu.one;intro k hk;have hle:k*s+s<=m*s:=by have:=Qs s (qdf hk);rw[Qv]at this;exact this
  refine RL.of_get ?_ ?_;rw[hlen k hk];simp;omega;intro j x u hx hu;have hj:j<s:=by have:=(ER.1 hx).1;rw[hlen k hk]at this;exact this
  obtain⟨u',hu',hxu⟩:=IU k j x hk hx;rw[IV,dH hj,dqX]at hu;have Ye:k*s+j<m*s:=by omega
  simp[Ye]at hu;rw[show o+(k*s+j)=o+k*s+j by omega,hu']at hu;simp only[qdI]at hu;rw[<- hu];exact hxu
theorem zgl{m s:Nat}{new:Nat->List PV}{v:Value}(S:bK P nt B w0 h0 g σ a w)(hs:0<s)(h:Rep g.h (.sl m s new) v):UL g w v m s new:=by
 cases h with|sl0=>exact .inl ⟨rfl,.inl rfl⟩|sle _ _ a c=>exact .inl ⟨rfl,.inr ⟨a,c,rfl⟩⟩|sl _ _ _ _ b o cap C ty fr vs hb jV hlen hc hr=>exact src_of hs rfl (S.hw.fz hb) hlen λk j x hk hj=>⟨vs k j,hc k j x hk hj,hr k j x hk hj⟩
theorem zmD{L e s b m:Nat}{new:Nat->List PV}(h:BP P g w B L e s b m new):UL g w (g.sv L) m s new:=by
 by_cases hm:m=0;subst hm;obtain⟨hs,_,xs,hx,_⟩:=h;rcases hx.2 with⟨h1,_⟩|⟨k,cap,cur,h1,_⟩
 exact .inl ⟨rfl,.inl h1⟩;have hx0:xs=[]:=by have:=hx.1;simpa using this
 exact .inr ⟨k,0,cap,[],h1,by simp,λj u hj=>by simp at hj,λu hu=>by simp at hu,λk hk=>absurd hk omY⟩;obtain⟨k,C,_,⟨cap,lQ⟩,hC,_,_,_⟩:=uk h (show 0<m by omega);refine src_of h.1.2 lQ hC (λq hq=>?_) (λq j x hq hj=>?_);obtain⟨_,_,_,_,_,_,h6,_⟩:=uk h hq;exact h6;obtain⟨k',C',je,⟨zZo,zu6⟩,XW,_,_,h7⟩:=uk h hq;rw[lQ]at zu6;simp only[Value.slice.injEq,bG,Addr.mk.injEq]at zu6;obtain⟨⟨rfl,_⟩,_⟩:=zu6;rw[hC]at XW;simp only[bG,Obj.cells.injEq]at XW;obtain⟨rfl,_⟩:=XW;rw[NR];exact h7 j x hj
end
end Go.Pm
