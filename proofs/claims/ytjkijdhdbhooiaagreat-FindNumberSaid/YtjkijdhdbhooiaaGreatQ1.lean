/- Part 1: framework, functions, plain laws. -/
import Derived.CallsIn
import Derived.Laws.AppendOwn
import Derived.Laws.Rows
import Derived.Laws.Cells
import Derived.Below
import Derived.DefersIn
import Derived.Laws.World
import Derived.Laws.StructEq
import Derived.MapKept
import Derived.Laws.AppendOwnNone
set_option linter.all false
noncomputable section
namespace Go.Pm
def bM:=@Option.some.injEq
def dR:=@List.mem_append
def dY:=@decide_eq_false
def dP:=@decide_eq_true
def fO:=@Int.toNat_natCast
def fQ:=@Bool.and_eq_true
def jM:=@List.mem_cons_of_mem
def dL:=@cond_false
def dF:=@cond_true
def lu:=@Nat.eq_of_beq_eq_true
def gq:=@Prod.mk.injEq
def kH:=@List.mem_cons_self
def mf:=@List.mem_singleton
def yB:=@Array.getD_eq_getD_getElem?
def mg:=@List.mem_flatMap
def jV:=@List.mem_cons
def oD:=@decide_eq_true_eq
def yC:=@List.getElem?_eq_getElem
def oG:=@List.flatMap_cons
def qp:=@List.length_cons
def BP:=@List.getElem?_eq_some_iff
def jP:=@Nat.le_refl
def lM:=@List.map_cons
def KO:=@Int.mul_le_mul_of_nonneg_right
def yL:=@List.all_eq_true
def eU:=@if_pos
def uu:=@List.mem_map
def eY:=@if_neg
def jZ:=@congrArg
def KP:=@List.mem_of_getElem?
def Wh:=@Array.getElem?_eq_some_iff
def xY:=@Int.le_of_lt
def JR:=@List.getElem?_take
def Du:=@List.cons.injEq
def Py:=@List.length_append
def JS:=@Bool.not_eq_true'
def VO:=@List.length_drop
def SI:=@Nat.mul_le_mul_right
def dqM:=@decide_eq_false_iff_not
def dqN:=@List.getElem?_cons_succ
def Ad:=@Nat.zero_le
def dqP:=@Option.map_eq_some_iff
def dqQ:=@List.take_of_length_le
def Jv:=@Bool.true_and
def Gj:=@Nat.le_trans
def VM:=@List.length_map
def SG:=@List.range'_succ
def KQ:=@List.mem_range
def Qn:=@List.map_append
def Qp:=@List.mem_filter
def PN:=@Bool.eq_iff_iff
def Qo:=@Bool.not_true
def dq0:=@List.getElem?_of_mem
def dq1:=@List.count_cons_self
def dq2:=@List.getElem?_eq_none
def dq3:=@List.count_cons_of_ne
def SH:=@Option.some.inj
def Qq:=@Option.map_some
def Qr:=@List.nil_append
def dq7:=@List.range_eq_range'
def VP:=@List.getElem_mem
def dq9:=@List.pairwise_iff_getElem
def qda:=@Array.getElem?_append_left
def qdb:=@Int.le_of_mul_le_mul_right
def V8:=@Bool.or_eq_true
def qdd:=@List.ext_getElem?
def qde:=@List.getElem?_map
def Wi:=@Nat.not_lt_zero
def Wj:=@List.length_nil
def Wl:=@List.foldl_cons
def PK:=@Nat.zero_add
def qdj:=@beq_self_eq_true
def qdk:=@List.filter_cons
def qdl:=@List.getElem?_drop
def qdm:=@List.pairwise_cons
def qdn:=@List.mem_or_eq_of_mem_set
def qdo:=@List.map_congr_left
def qdp:=@Array.toArray_toList
def KN:=@beq_iff_eq
def Wn:=@Int.lt_irrefl
def qds:=@Int.mul_le_mul_of_nonneg_left
def qdt:=@Nat.succ_le_of_lt
def VQ:=@Nat.succ_mul
def VS:=@decide_false
def qdw:=@Nat.lt_of_lt_of_le
def qdx:=@List.nodup_cons
def qdy:=@List.pairwise_append
def qdz:=@Bool.false_eq_true
def qdA:=@Nat.ne_of_beq_eq_false
def qdB:=@List.drop_eq_nil_of_le
def qdC:=@List.length_take
def qdD:=@List.eq_nil_of_length_eq_zero
def qdE:=@of_decide_eq_true
def qdF:=@List.map_map
def qdG:=@List.getElem?_cons_zero
def VT:=@Nat.ble_eq
def qdI:=@Bool.or_eq_false_iff
def qdJ:=@Int.tdiv_eq_ediv_of_nonneg
def qdK:=@Array.getElem?_setIfInBounds_ne
def qdL:=@Array.getElem?_eq_getElem
def qdM:=@Classical.byContradiction
def qdN:=@Nat.mul_comm
def qdO:=@Option.getD_some
def qdP:=@Nat.lt_or_ge
def qdQ:=@Bool.not_false
def qdR:=@List.append_assoc
def qdS:=@Nat.or_lt_two_pow
def qdT:=@List.flatMap_append
def qdU:=@beq_eq_false_iff_ne
def qdV:=@List.getElem_of_mem
def qdW:=@List.cons_append
def qdX:=@List.any_eq_true
def qdY:=@List.map_nil
def qdZ:=@Nat.le_of_ble_eq_true
def qd0:=@Int.lt_or_le
def qd1:=@List.append_nil
def qd2:=@Int.mul_tdiv_cancel_left
def qd3:=@Nat.testBit_and
def qd4:=@List.all_cons
def qd5:=@Int.le_refl
def qd6:=@Nat.testBit_or
def qd7:=@Bool.and_false
def Qs:=@if_true
def qd9:=@Array.getElem?_setIfInBounds
def qja:=@Nat.add_zero
def qjb:=@List.contains_iff_mem
def qjc:=@List.any_eq_false
def qjd:=@Int.ediv_emod_unique
def qje:=@if_false
def qjf:=@List.flatMap_map
def qjg:=@Array.length_toList
def qjh:=@List.getElem?_range
def Wp:=@Iff.rfl
def qjj:=@Int.add_mul
def qjk:=@List.mem_map_of_mem
def qjl:=@Nat.blt_eq
def qjm:=@List.headD_cons
def qjn:=@List.filter_append
def qjo:=@List.length_eq_zero_iff
def qjp:=@Array.getElem?_eq_none
def qjq:=@Int.mul_neg
def qjr:=@List.pairwise_map
def qjs:=@Bool.false_and
def qjt:=@List.take_append_drop
def qju:=@Array.toList_map
def qjv:=@List.not_mem_nil
def qjw:=@Bool.not_eq_true
def qjx:=@Nat.zero_testBit
def qjy:=@List.getElem?_set_ne
def qjz:=@List.count_le_length
def qjA:=@Nat.add_assoc
def qjB:=@Bool.false_or
def qjC:=@List.map_id
def qjD:=@Int.mul_lt_mul_of_pos_right
def qjE:=@List.range_succ
def qjF:=@Nat.add_sub_cancel
def qjG:=@Int.le_total
def qjH:=@getElem!_pos
def qjI:=@List.nodup_nil
def qjJ:=@List.mapM_cons
def qjK:=@Array.mapM_eq_mapM_toList
def qjL:=@List.drop_eq_getElem_cons
def qjM:=@List.getElem?_append_left
def qjN:=@List.getElem?_set
def qjO:=@List.nodup_append
def qjP:=@Nat.lt_of_succ_le
def qjQ:=@List.filter_congr
def qjR:=@Nat.lt_trichotomy
def qjS:=@List.mem_range'_1
def qjT:=@Bool.and_true
def qjU:=@Bool.and_self
def qjV:=@Ne.symm
def qjW:=@Int.mul_sub
def qjX:=@List.getElem?_set_self
def qjY:=@Array.getElem?_modify
def qjZ:=@List.getElem?_toArray
def qj0:=@Nat.ble_eq_true_of_le
def qj1:=@Int.emod_add_mul_ediv
def qj2:=@List.length_filter_le
def qj3:=@List.Perm.of_eq
def qj4:=@or_congr
def qj5:=@Nat.div_lt_of_lt_mul
def qj6:=@Nat.eq_of_testBit_eq
def qj7:=@Nat.pow_le_pow_right
def qj8:=@List.drop_zero
def qj9:=@Int.mul_nonneg
def jqa:=@List.filter_eq_self
def jqb:=@Int.neg_mul
def jqc:=@Int.sub_mul
def jqd:=@Int.one_mul
def jqe:=@congrFun
def jqf:=@and_true
def jqg:=@List.range'_concat
def jqh:=@Nat.eq_zero_or_pos
def jqi:=@Int.emod_lt_of_pos
def jqj:=@Array.all_eq_true_iff_forall_mem
def jqk:=@Array.toList_push
def jql:=@List.foldl_append
def jqm:=@Int.lt_trichotomy
def jqn:=@Nat.add_comm
def jqo:=@List.map_set
def jqp:=@Int.mul_zero
def jqq:=@Nat.gcd_comm
def jqr:=@Bool.or_true
def jqs:=@Option.bind_some
def jqt:=@Nat.mod_eq_of_lt
def jqu:=@decide_eq_decide
def jqv:=@List.ext_getElem
def jqw:=@List.countP_eq_length_filter
def jqx:=@Nat.div_add_mod
def jqy:=@Nat.mul_add_mod
def jqz:=@Int.mul_pos
def jqA:=@Int.le_antisymm
def jqB:=@Int.emod_nonneg
def jqC:=@Int.ediv_mul_le
def jqD:=@Array.getElem?_eq_none_iff
def jqE:=@Int.eq_of_mul_eq_mul_right
def jqF:=@Int.lt_of_mul_lt_mul_right
def jqG:=@List.getD_eq_getElem?_getD
def jqH:=@List.getElem?_zip_eq_some
def jqI:=@List.extract_eq_take_drop
def jqJ:=@Nat.mul_le_mul
def jqK:=@Int.natAbs_mul
def jqL:=@Option.isSome_iff_exists
def jqM:=@Int.not_lt
def jqN:=@List.Perm.eq_of_pairwise
def jqO:=@or_false
def jqP:=@Int.eq_ofNat_of_zero_le
def jqQ:=@List.pairwise_singleton
def jqR:=@List.any_cons
def jqS:=@List.pairwise_lt_range
def jqT:=@List.length_pos_of_mem
def jqU:=@Bool.and_eq_false_iff
def jqV:=@List.set_getElem_self
def jqW:=@Nat.zero_mul
def jqX:=@Nat.sub_zero
def jqY:=@List.singleton_append
def jqZ:=@Array.getElem?_toList
def jq0:=@Int.natAbs_dvd_natAbs
def jq1:=@Bool.not_not
def jq2:=@List.mem_append_right
def jq3:=@Int.le_trans
def jq4:=@Int.mul_comm
def jq5:=@Nat.lt_trans
def jq6:=@List.mem_of_mem_drop
def jq7:=@List.mem_of_mem_take
def jq8:=@List.extract_toArray
def jq9:=@List.Pairwise.filter
def qza:=@List.mem_append_left
def qzb:=@Nat.pow_lt_pow_right
def qzc:=@List.mem_of_mem_tail
theorem omY{p:Prop}(h:p:=by omega):p:=h
inductive KF where
  | one
  | ints
instance KF.dec:DecidableEq KF:=λa b=>match a,b with|.one,.one=>isTrue rfl|.ints,.ints=>isTrue rfl|.one,.ints=>isFalse (λh=>by cases h)|.ints,.one=>isFalse (λh=>by cases h)
abbrev MQ:=KF×Nat×Bool×List (Option IntKind)
inductive PV where
  | bool (b:Bool)
  | int (k:IntKind) (n:Int)
  | nilp
  | nilf
  | nilm
  | nils
  | fp (cells:List PV) (off:Nat)
  | sl (len size:Nat) (get:Nat->List PV)
  | fn (f:FuncId) (first caps:List PV)
  | fna (f:FuncId) (cells:List PV)
def smB:Nat→PV→PV→Bool
  | 0,_,_=>false
  | d+1,x,y=>match x,y with|.int k _,.int k' _=>decide (k=k')|.bool _,.bool _=>true|.sl _ s g,.sl _ s' g'=>Nat.beq s s'&&(Nat.beq (g 0).length (g' 0).length&&((g 0).zip (g' 0)).all λz=>smB d z.1 z.2)|.fp l o,.fp l' o'=>Nat.beq o o'&&(Nat.beq l.length l'.length&&(l.zip l').all λz=>smB d z.1 z.2)|.nils,.nils=>true|.nilp,.nilp=>true|.nilf,.nilf=>true|.nilm,.nilm=>true|_,_=>false
def smL(l m:List PV):Bool:=Nat.beq l.length m.length&&(l.zip m).all λz=>smB 8 z.1 z.2
inductive uw where
  | v (v:PV)
  | b (L:Nat)
inductive Cl where
  | p (v:PV)
  | ptr (L off:Nat)
  | vptr (L size i k:Nat)
  | vec (L:Nat)
  | mo (L:Nat)
  | clo (f:FuncId) (caps:List uw)
  | undef
  | junk
  | dead (L:Nat)
inductive D1 where
  | c (x:Cl)
  | agg (cs:List Cl)
inductive DV where
  | one (d:D1)
  | tup (ds:List D1)
inductive AO where
  | box (ty:Nat) (cells:List Cl)
  | fbox (cells:List PV)
  | vec (ety size bytes len:Nat) (get:Nat->List PV)
  | fvec (size len:Nat) (get:Nat->List PV)
  | vv (te bb ety size bytes len:Nat) (ln:Nat->Nat) (get:Nat->Nat->List PV)
  | vt (te bb ety size bytes len:Nat) (ln:Nat->Nat) (get:Nat->Nat->List PV) (hole:Nat)
  | mo (kt vt:Nat) (q:MQ) (n:Nat) (F:List Int->Option (List Int))
  | gone
inductive PA where
  | one (v:PV)
  | agg (cs:List PV)
structure ae (ρ : Type) where
  T:{A:Type}->(ρ->Option A)->Option A
  nat:∀{A:Type}(k:ρ->Option A),T k=(T some).bind k
abbrev ae.o{ρ:Type}(c:ae ρ):Option ρ:=c.T some
def ae.no{ρ:Type}:ae ρ:=⟨λ_=>none,λ_=>rfl⟩
def ae.ok{ρ:Type}(r:ρ):ae ρ:=⟨λk=>k r,λ_=>rfl⟩
inductive Gq where
  | none
  | clone (ety size bytes:Nat)
  | sort (ety size bytes:Nat)
  | mkv (e s b:Nat) (F:List PA->ae (Nat×(Nat->List PV)×List PV))
  | grow (e s b:Nat) (F:List PA->Nat->(Nat->List PV)->ae (Nat×(Nat->List PV)))
inductive XC where
  | p (v:PV)
  | vec (e s b n:Nat) (get:Nat->List PV)
  | mo (kt vt:Nat) (q:MQ) (n:Nat) (F:List Int->Option (List Int))
  | slf (f:FuncId) (np n:Nat)
inductive XA where
  | d (a:PA)
  | box (ty:Nat) (cells:List XC)
abbrev MK:=List XA->ae (List PA×List XA)
structure bI where
  fn:FuncId->List PA->ae (List PA)
  own:FuncId->Gq
  it:FuncId->List PA->ae (List (List PA))
  vv:Nat->Bool
  mt:FuncId->Option MK
  cfn:FuncId->List PA->ae (List PA)
def lk{α:Type}:List (Nat×α)→Nat→Option α
  | [],_=>none
  | (k,a)::r,n=>match Nat.beq k n with|true=>some a|false=>lk r n
structure St where
  env:List (Nat×DV)
  ax:List (Nat×AO)
  log:List (Nat×Nat×Nat)
abbrev DV.p(v:PV):DV:=.one (.c (.p v))
abbrev DV.int(n:Int):DV:=.one (.c (.p (.int .i64 n)))
abbrev DV.bool(b:Bool):DV:=.one (.c (.p (.bool b)))
abbrev DV.cl(x:Cl):DV:=.one (.c x)
abbrev DV.junk:DV:=.one (.c .junk)
def wS:Value→Option PV|.bool b=>some (.bool b)|.int k n=>some (.int k n)|.pointer none=>some .nilp|.slice none 0 0=>some .nils|.nilFunc=>some .nilf|.map none=>some .nilm|_=>none
def jF:List Value→Option (List Cl)
  | []=>some []
  | v::r=>match wS v,jF r with|some x,some l=>some (.p x::l)|_,_=>none
def Qu(v:Value):DV :=
 match v with
 | .agg cs=>match jF cs.toList with|some l=>.one (.agg l)|none=>.junk
 | v=>match wS v with|some x=>.p x|none=>.junk
def fU(env:List (Nat×DV)):Operand→DV
  | .tmp t=>match lk env t with|some d=>d|none=>.junk
  | .const v=>Qu v
  | .func f=>.p (.fn f [] [])
  | .global _=>.junk
section
variable(P:Program)
def qK(t:TypeId):Option Nat:=(P.info? t).map (·.size)
def jG(t:TypeId):Option Bool:=(P.underlying t).map fun
  | .struct _=>true
  | .array _ _=>true
  | _=>false
def gX(t:TypeId):Option (List Cl) :=
 match P.info? t with
 | some i=>match i.zero with
  | some z=>match jF z.cells.toList with
   | some l=>if l.length=i.size then some l else none
   | none=>none
  | none=>none
 | none=>none
end
def D1.cells:D1→List Cl|.c x=>[x]|.agg cs=>cs
def spl{α:Type}:List α→Nat→List α→List α|l,_,[]=>l|l,off,x::r=>spl (l.set off x) (off+1) r
def kC:List Cl→Option (List PV)
  | []=>some []
  | .p v::r=>match kC r with|some l=>some (v::l)|none=>none
  | _=>none
def AX(ob:Nat→Option AO):Cl→Option (PV×List (Nat×AO))
  | .p v=>some (v,[])
  | .vec L=>match ob L with|some (.vec _ size _ len get)=>some (.sl len size get,[(L,.fvec size len get)])|some (.fvec size len get)=>some (.sl len size get,[])|some (.vv _ _ _ size _ n ln get)=>some (.sl n 1 (λi=>[.sl (ln i) size (get i)]),[(L,.fvec 1 n (λi=>[.sl (ln i) size (get i)]))])|_=>none
  | _=>none
def jH(ob:Nat→Option AO):List Cl→Option (List PV×List (Nat×AO))
  | []=>some ([],[])
  | x::r=>match AX ob x,jH ob r with|some (v,u),some (l,us)=>some (v::l,u++us)|_,_=>none
def PO(ob:Nat→Option AO):Cl→Option (PV×List (Nat×AO))
  | .ptr L off=>match ob L with
    | some (.box _ cells)=>match jH ob cells with|some (l,us)=>some (.fp l off,us++[(L,.fbox l)])|none=>none
    | some (.fbox l)=>some (.fp l off,[])
    | _=>none
  | x=>AX ob x
def nX(ob:Nat→Option AO):List Cl→Option (List PV×List (Nat×AO))
  | []=>some ([],[])
  | x::r=>match PO ob x,nX ob r with|some (v,u),some (l,us)=>some (v::l,u++us)|_,_=>none
def KR(ob:Nat→Option AO):Cl→Option (PV×List (Nat×AO))
  | .ptr L off=>match ob L with
    | some (.box _ cells)=>match nX ob cells with|some (l,us)=>some (.fp l off,us++[(L,.fbox l)])|none=>none
    | some (.fbox l)=>some (.fp l off,[])
    | _=>none
  | x=>AX ob x
def tJ(ob:Nat→Option AO):List Cl→Option (List PV×List (Nat×AO))
  | []=>some ([],[])
  | x::r=>match KR ob x,tJ ob r with|some (v,u),some (l,us)=>some (v::l,u++us)|_,_=>none
def zeX:uw→Cl|.v v=>.p v|.b L=>.ptr L 0
def frz(ob:Nat→Option AO):Cl→Option (PV×List (Nat×AO))
  | .clo f caps=>match tJ ob (caps.map zeX)with|some (l,us)=>some (.fn f [] l,us)|none=>none
  | x=>KR ob x
def uy(ob:Nat→Option AO):List Cl→Option (List PV×List (Nat×AO))
  | []=>some ([],[])
  | x::r=>match frz ob x,uy ob r with|some (v,u),some (l,us)=>some (v::l,u++us)|_,_=>none
def AY(ob:Nat→Option AO):DV→Option (PA×List (Nat×AO))
  | .one (.c x)=>match frz ob x with|some (v,u)=>some (.one v,u)|none=>none
  | .one (.agg cs)=>match uy ob cs with|some (l,u)=>some (.agg l,u)|none=>none
  | _=>none
def iG(ob:Nat→Option AO):List DV→Option (List PA×List (Nat×AO))
  | []=>some ([],[])
  | x::r=>match AY ob x,iG ob r with|some (v,u),some (l,us)=>some (v::l,u++us)|_,_=>none
def lN:List uw→List Nat|[]=>[]|.v _::r=>lN r|.b L::r=>L::lN r
def bg:Cl→List Nat|.ptr L _=>[L]|.vptr L _ _ _=>[L]|.vec L=>[L]|.mo L=>[L]|.clo _ caps=>lN caps|.dead L=>[L]|_=>[]
def dC:D1→List Nat|.c x=>bg x|.agg cs=>cs.flatMap bg
def bY:DV→List Nat|.one d=>dC d|.tup ds=>ds.flatMap dC
def dS:AO→List Nat|.box _ cs=>cs.flatMap bg|_=>[]
def bG(ob:Nat->Option AO)(d:DV):List Nat :=
 (bY d).flatMap λL=>L::match ob L with
  | some o=>(dS o).flatMap λM=>M::match ob M with|some o'=>dS o'|none=>[]
  | none=>[]
def JU:PA→D1|.one v=>.c (.p v)|.agg cs=>.agg (cs.map .p)
def resD:List PA→DV|[x]=>.one (JU x)|l=>.tup (l.map JU)
structure CP where
  p:Prop
  b:Bool
  h:b=true->p
instance cpOf(p:Prop)[Decidable p]:CoeDep Prop p CP:=⟨⟨p,decide p,of_decide_eq_true⟩⟩
inductive aC : Type 1 where
  | no
  | val (fp:List (Nat×Bool)) (d:DV) (u:List (Nat×AO)) (kill:List Nat)
  | chk (fp:List (Nat×Bool)) (safe:CP) (d:DV) (u:List (Nat×AO)) (kill:List Nat)
def jS:PV→Bool|.bool _=>true|.int _ _=>true|_=>false
def zh5:PA→Bool|.one v=>jS v|.agg cs=>cs.all jS
def Wq(l:List PA):Bool:=l.all zh5
def rd(l:List Nat):List (Nat×Bool):=l.map λL=>(L,false)
def wr(l:List Nat):List (Nat×Bool):=l.map λL=>(L,true)
def sc2(l:List PV):Bool:=l.all jS&&Nat.ble 2 l.length
def zh6:List PV→Bool|a::b::r=>!(jS a&&jS b)&&zh6 (b::r)|_=>true
def zvH:Nat×AO→Bool|(_,.fbox l)=>zh6 l|(_,.gone)=>true|_=>false
def zcz:List (Nat×AO)→Bool|[(_,.fbox l),(_,.fbox [.fp _ _])]=>l.all λv=>!jS v|_=>false
inductive Anch:PV→Prop
  | scal (v:PV) (h:jS v=true):Anch v
  | nils:Anch .nils
  | sl (n s:Nat) (get:Nat->List PV) (h:∀i:Nat,∃(j:Nat)(x:PV),(get i)[j]? = some x/\jS x=true) (h2:∀(i:Nat)(x:PV),x∈get i->Anch x):Anch (.sl n s get)
def Bz:Nat→PV→Bool
  | 0,_=>false
  | d+1,v=>match v with|.nils=>true|.sl _ _ g=>(g 0).any jS&&(g 0).all (Bz d)|v=>jS v
def Ws(u:List (Nat×AO))(r:List PA):Bool:=match r,u with
 | [.one (.sl n s get)],_::_=>match sc2 (get 0)with|true=>u.all zvH|false=>zcz u&&Bz 8 (.sl n s get)
 | _,_=>false
def lI(jl:List Nat)(u:List (Nat×AO))(r:List PA):aC :=
 match Wq r||Ws u r with|true=>.val (rd jl) (resD r) [] []|false=>.val (wr jl) (resD r) u []
def oH(isAgg:Bool)(n:Nat)(cells:List Cl)(off:Nat):Option D1 :=
  match isAgg with
  | true => let l := (cells.drop off).take n
    match Nat.beq l.length n with|true=>some (.agg l)|false=>none
  | false=>match cells[off]? with|some x=>some (.c x)|none=>none
def D1.isAgg:D1→Bool|.c _=>false|.agg _=>true
def Dv:Cl→Bool|.junk=>false|.undef=>false|.dead _=>false|_=>true
def nP:Cl→List Nat|.vptr L _ _ _=>[L]|.vec L=>[L]|.dead L=>[L]|.mo L=>[L]|_=>[]
def uz:D1→List Nat|.c x=>nP x|.agg cs=>cs.flatMap nP
def mr:DV→List Nat|.one d=>uz d|.tup ds=>ds.flatMap uz
def qw:AO→List Nat|.box _ cs=>cs.flatMap nP|_=>[]
def appG(n:Nat)(get new:Nat->List PV):Nat->List PV :=
 λj=>match Nat.ble n j with|true=>new (j-n)|false=>get j
def Dw(i k:Nat)(get:Nat->List PV)(new:List PV):Nat->List PV :=
 λj=>match Nat.beq j i with|true=>spl (get j) k new|false=>get j
def Jw(f:PV→PV→PV):List PV→List PV→List PV|[],_=>[]|x::r,l=>f x (l.headD .nilp)::Jw f r l.tail
def shp:Nat→PV→PV→PV
  | 0,_,b=>b
  | d+1,a,b=>match a with
    | .int k _=>.int k (match b with | .int _ n=>n|_=>0)
    | .bool _=>.bool (match b with | .bool x=>x|_=>false)
    | .sl _ s g=>.sl (match b with | .sl n _ _=>n|_=>0) s (λi=>Jw (shp d) (g 0) (match b with | .sl _ _ g'=>g' i|_=>[]))
    | .fp l o=>.fp (Jw (shp d) l (match b with | .fp l' _=>l'|_=>[])) o
    | a=>a
def nzG(row:List PV)(g:Nat->List PV):Nat->List PV:=λi=>Jw (shp 8) row (g i)
def zyp(row:List PV)(g:Nat->Nat->List PV):Nat->Nat->List PV:=λi j=>Jw (shp 8) row (g i j)
def BA(b:Bool)(x y:DV):DV :=
 match x,y with
 | .one (.c (.p (.bool a))),.one (.c (.p (.bool c)))=>.bool (match b with|true=>a|false=>c)
 | x,y=>match b with|true=>x|false=>y
def zaq(k:IntKind)(a b:Int):Int:=k.wrap (a*2^(min b.toNat k.bits))
def Gs(k:IntKind)(a b:Int):Int:=a.fdiv (2^(min b.toNat k.bits))
def KT(k:IntKind)(a b:Int):Int:=k.wrap (BitVec.ofInt k.bits a &&& BitVec.ofInt k.bits b).toNat
def orW(k:IntKind)(a b:Int):Int:=k.wrap (BitVec.ofInt k.bits a ||| BitVec.ofInt k.bits b).toNat
def zGP(k:IntKind)(a b:Int):Int:=k.wrap (BitVec.ofInt k.bits a ^^^ BitVec.ofInt k.bits b).toNat
def qU(k:IntKind)(a b:Int):Int:=k.wrap (BitVec.ofInt k.bits a &&& ~~~ BitVec.ofInt k.bits b).toNat
def zh8(op:BinOp)(k:IntKind)(a b:Int):aC :=
 match op with|.shl=>.chk [] (0<=b) (.p (.int k (zaq k a b))) [] []|.shr=>.chk [] (0<=b) (.p (.int k (Gs k a b))) [] []|_=>.no
def Wu(op:BinOp)(k:IntKind)(a b:Int):aC :=
 match op with|.shl=>.chk [] (0<=b) (.p (.int k (zaq k a b))) [] []|.shr=>.chk [] (0<=b) (.p (.int k (Gs k a b))) [] []|.and=>.val [] (.p (.int k (KT k a b))) [] []|.or=>.val [] (.p (.int k (orW k a b))) [] []|.xor=>.val [] (.p (.int k (zGP k a b))) [] []|.andNot=>.val [] (.p (.int k (qU k a b))) [] []|.add=>.val [] (.p (.int k (k.wrap (a+b)))) [] []|.sub=>.val [] (.p (.int k (k.wrap (a-b)))) [] []|.mul=>.val [] (.p (.int k (k.wrap (a*b)))) [] []|.quo=>.chk [] (b≠0) (.p (.int k (k.wrap (a.tdiv b)))) [] []|.rem=>.chk [] (b≠0) (.p (.int k (a.tmod b))) [] []|.eql=>.val [] (.bool (a==b)) [] []|.neq=>.val [] (.bool (a != b)) [] []|.lss=>.val [] (.bool (decide (a<b))) [] []|.leq=>.val [] (.bool (decide (a<=b))) [] []|.gtr=>.val [] (.bool (decide (a>b))) [] []|.geq=>.val [] (.bool (decide (a>=b))) [] []
def KU:List Cl→Option (List Int)
  | []=>some []
  | .p (.int .i64 a)::r=>match KU r with|some l=>some (a::l)|none=>none
  | _=>none
def zyq(Γ:bI):Option Nat→Bool|some t=>Γ.vv t|none=>false
def Gq.on:Gq→Bool|.none=>false|_=>true
variable(P:Program)(Γ:bI)
def eqT:Nat→TypeId→D1→D1→Option Bool
  | 0,_,_,_=>none
  | d+1,t,x,y =>
    match P.underlying t with
    | some .bool=>match x,y with|.c (.p (.bool a)),.c (.p (.bool b))=>some (a==b)|_,_=>none
    | some (.int _)=>match x,y with
      | .c (.p (.int k a)),.c (.p (.int k' b))=>if k=k' then some (a==b)else none
      | _,_=>none
    | some (.struct fs)=>match x,y,P.stoodInHeld t with
      | .agg xs,.agg ys,false=>fs.toList.foldr (λf acc =>
          match acc, f.name != "_", jG P f.type, qK P f.type with
          | some r,true,some ag,some n=>match oH ag n xs f.offset,oH ag n ys f.offset with
            | some a,some b=>match eqT d f.type a b with
              | some e=>some (match e with|true=>r|false=>false)
              | none=>none
            | _,_=>none
          | _,_,_,_=>none) (some true)
      | _,_,_=>none
    | _=>none
def zcA(op:BinOp)(t:TypeId)(cs ds:List Cl):aC :=
 match P.eqGuardType P.depth t,eqT P 8 t (.agg cs) (.agg ds)with
 | false,some r=>match op with|.eql=>.val [] (.bool r) [] []|.neq=>.val [] (.bool (!r)) [] []|_=>.no
 | _,_=>.no
def kW:Nat→TypeId→Option Nat
  | 0,_=>none
  | d+1,t =>
    match P.underlying t with
    | some (.int .i64)=>match qK P t with
      | some n=>match Nat.beq n 1 with|true=>some 1|false=>none
      | none=>none
    | some (.struct fs)=>match P.stoodInHeld t with
      | true=>none
      | false => fs.toList.foldl (fun acc f => match acc, f.name != "_", kW d f.type, qK P f.type with
        | some m,true,some n,some n'=>match Nat.beq f.offset m&&Nat.beq n n' with|true=>some (m+n)|false=>none
        | _,_,_,_=>none) (some 0)
    | some (.array n e)=>match kW d e,qK P e with
      | some m,some m'=>match Nat.beq m m' with|true=>some (n*m)|false=>none
      | _,_=>none
    | _=>none
def KW(t:TypeId)(x i:DV):aC :=
 match P.underlying t with
 | some (.array n e)=>match qK P e,jG P e,x,i with
  | some m,some ag,.one (.agg cs),.one (.c (.p (.int _ (.ofNat j))))=>match Nat.blt j n,oH ag m cs (j*m)with|true,some d=>.val [] (.one d) [] []|_,_=>.no
  | _,_,_,_=>.no
 | _=>.no
def KX(t:TypeId)(x:DV)(f:Nat):aC :=
 match P.underlying t with
 | some (.struct fs)=>match fs[f]? with
  | some fd=>match qK P fd.type,jG P fd.type,x with
   | some m,some ag,.one (.agg cs)=>match oH ag m cs fd.offset with|some d=>.val [] (.one d) [] []|none=>.no
   | _,_,_=>.no
  | none=>.no
 | _=>.no
def Dx(n:Nat)(e:TypeId)(x i:DV):aC :=
 match qK P e,i with
 | some m,.one (.c (.p (.int _ (.ofNat j))))=>match Nat.blt j n with
  | true=>match x with|.one (.c (.ptr L off))=>.val [] (.cl (.ptr L (off+j*m))) [] []|.one (.c (.p (.fp c off)))=>.val [] (.p (.fp c (off+j*m))) [] []|_=>.no
  | false=>.no
 | _,_=>.no
def zh9(t:TypeId):Option (List (Option IntKind)) :=
 match gX P t with
 | some z=>z.foldr (λc acc=>match c,acc with|.p (.int k (.ofNat 0)),some l=>some (some k::l)|.p (.bool false),some l=>some (none::l)|_,_=>none) (some [])
 | none=>none
def lQ(k:TypeId):Option (KF×Nat) :=
 match kW P 8 k,jG P k with
 | some n,some true=>some (.ints,n)
 | some n,some false=>match Nat.beq n 1 with|true=>some (.one,n)|false=>none
 | _,_=>none
def KY(k e:TypeId):Option MQ :=
 match lQ P k,zh9 P e,jG P e with
 | some (kf,n),some ks,some yM=>match(yM||Nat.beq ks.length 1),(P.info? e).bind (·.zero),yM with|true,some (.agg _),true=>some (kf,n,yM,ks)|true,some (.agg _),false=>none|true,some _,false=>some (kf,n,yM,ks)|_,_,_=>none
 | _,_,_=>none
def zoM(kf:KF)(n:Nat)(d:DV):Option (List Int) :=
 match kf,d with
 | .ints,.one (.agg cs)=>match KU cs with
  | some l=>match Nat.beq l.length n with|true=>some l|false=>none
  | none=>none
 | .one,.one (.c (.p (.int .i64 a)))=>some [a]
 | _,_=>none
def zia:Option IntKind→Int→PV|some k,x=>.int k x|none,x=>.bool (x != 0)
def AZ(o:Option (List Int))(i:Nat):Int:=match o with|some l=>l.getD i 0|none=>0
def zyr(o:Option (List Int)):Nat→List (Option IntKind)→List PV|_,[]=>[]|i,k::ks=>zia k (AZ o i)::zyr o (i+1) ks
def zib(yM:Bool)(ks:List (Option IntKind))(o:Option (List Int)):Option D1 :=
 match yM,zyr o 0 ks with|true,l=>some (.agg (l.map .p))|false,[v]=>some (.c (.p v))|_,_=>none
def vH:List (Option IntKind)→List Cl→Option (List Int)
  | [],[]=>some []
  | some k::ks,.p (.int k' a)::r=>if k=k' then match vH ks r with|some l=>some (a::l)|none=>none else none
  | none::ks,.p (.bool b)::r=>match vH ks r with|some l=>some ((match b with|true=>1|false=>0)::l)|none=>none
  | _,_=>none
def oI(c v:List Int)(F:List Int->Option (List Int)):List Int->Option (List Int) :=
 λx=>match decide (x=c)with|true=>some v|false=>F x
def addN(o:Option (List Int))(n:Nat):Nat:=match o with|some _=>n|none=>n+1
def found(q:MQ)(k:DV)(ok:Bool)(F:List Int->Option (List Int))(fin:DV->aC):aC :=
 match zoM q.1 q.2.1 k with
 | some c=>match zib q.2.2.1 q.2.2.2 (F c)with
  | some d=>match ok with|true=>fin (.tup [d,.c (.p (.bool (F c).isSome))])|false=>fin (.one d)
  | none=>.no
 | none=>.no
def pO{α:Type}(i:Nat)(x:α)(f:Nat->α):Nat->α:=λj=>match Nat.beq j i with|true=>x|false=>f j
def KZ(t:TypeId)(m k:DV)(ok:Bool)(ob:Nat->Option AO):aC :=
 match P.underlying t,m with
 | some (.map kt vt),.one (.c (.mo L))=>match KY P kt vt,ob L with
  | some q,some (.mo kt' vt' q' _ F)=>if kt'=kt/\vt'=vt/\q'=q then found q k ok F λd=>.val [(L,false)] d [] []else .no
  | _,_=>.no
 | _,_=>.no
def Wv(t:TypeId)(m k v:DV)(ob:Nat->Option AO):aC :=
 match P.underlying t,m with
 | some (.map kt vt),.one (.c (.mo L))=>match KY P kt vt,ob L with
  | some q,some (.mo kt' vt' q' m' F)=>match zoM q.1 q.2.1 k,v with
   | some c,.one dv=>match vH q.2.2.2 dv.cells with
    | some l=>if kt'=kt/\vt'=vt/\q'=q/\dv.isAgg=q.2.2.1 then .val [(L,true)] .junk [(L,.mo kt vt q (addN (F c) m') (oI c l F))] []else .no
    | none=>.no
   | _,_=>.no
  | _,_=>.no
 | _,_=>.no
def zcB(t k:Nat)(l:List PV):List PV :=
 match P.underlying t,l[k]? with
 | some (.slice e2),some .nils=>match qK P e2,gX P e2 with
  | some s,some z=>match kC z with|some z=>l.set k (.sl 0 s (λ_=>z))|none=>l
  | _,_=>l
 | _,_=>l
def zic:List Field→List PV→List PV|[],l=>l|f::r,l=>zic r (zcB P f.type f.offset l)
def Ba(e:TypeId)(l:List PV):List PV :=
 match P.underlying e with|some (.struct fs)=>zic P fs.toList l|_=>zcB P e 0 l
def Dy(e:TypeId):List PV:=match gX P e with
 | some z=>match kC z with|some l=>Ba P e l|none=>[]
 | none=>[]
def tK(t:TypeId)(x y:DV)(dst:Option Nat)(ob:Nat->Option AO):aC :=
 match P.underlying t,x,y,dst with
 | some (.slice e),.one (.c (.p (.int _ n))),.one (.c (.p (.int _ m))),some dst=>match P.info? e,gX P e,ob dst with
  | some ie,some z,none=>match zyq Γ (some dst)with
   | true=>match z,P.underlying e with
    | [.p .nils],some (.slice e2)=>match P.info? e2,gX P e2,Nat.beq ie.size 1&&Nat.ble ie.bytes 1000000 with
     | some i2,some z2,true=>match kC z2,Nat.ble 1 i2.size with|some l2,true=>.chk [(dst,true)] (0<=n/\n=m/\n<=1000000) (.cl (.vec dst)) [(dst,.vv e ie.bytes e2 i2.size i2.bytes n.toNat (λ_=>0) (λ_ _=>l2))] []|_,_=>.no
     | _,_,_=>.no
    | _,_=>.no
   | false=>match kC z with
    | some l=>match Nat.ble 1 ie.size&&Nat.ble ie.bytes 1000000 with|true=>.chk [(dst,true)] (0<=n/\n=m/\n<=1000000) (.cl (.vec dst)) [(dst,.vec e ie.size ie.bytes n.toNat (λ_=>Ba P e l))] []|false=>.no
    | none=>.no
  | _,_,_=>.no
 | _,_,_,_=>.no
def Gt(ev:Operand→DV):Option Operand→Option (Option Int)
  | none=>some none
  | some x=>match ev x with|.one (.c (.p (.int _ j)))=>some (some j)|_=>none
def slG(get:Nat->List PV)(l:Nat):Nat->List PV:=λi=>get (i+l)
def Dz(t:TypeId)(x:DV)(lo hi:Option (Option Int)):aC :=
 match P.underlying t,x,lo,hi with
 | some (.slice e),.one (.c (.p (.sl n s get))),some lo,some hi=>match qK P e with
  | some m=>match Nat.beq s m with|true=>.chk [] (0<=lo.getD 0/\lo.getD 0<=hi.getD (n:Int)/\hi.getD (n:Int)<=(n:Int)) (.p (.sl (hi.getD (n:Int)-lo.getD 0).toNat s (slG get (lo.getD 0).toNat))) [] []|false=>.no
  | none=>.no
 | _,_,_,_=>.no
def La(t:TypeId)(f:Nat):Option Nat :=
 match P.underlying t with
 | some (.struct fs)=>match fs[f]? with
  | some fd=>match qK P fd.type with|some (_+1)=>some fd.offset|_=>none
  | none=>none
 | _=>none
def yQ(t:TypeId):Bool :=
 match P.underlying t with|some (.struct fs)=>fs.toList.all λf=>(qK P f.type).isSome|some (.array _ e)=>(qK P e).isSome|_=>false
def iO(t:TypeId)(ev:Operand→DV):List Cl→List (Nat×Operand)→Option (List Cl)
  | z,[]=>some z
  | z,(i,o)::r =>
    match ev o with
    | .one d =>
      match P.underlying t with
      | some (.struct fs)=>match fs[i]? with
        | some fd=>match qK P fd.type with
          | some n=>match Nat.beq n d.cells.length&&Nat.ble (fd.offset+n) z.length&&d.cells.all Dv with|true=>iO t ev (spl z fd.offset d.cells) r|false=>none
          | none=>none
        | none=>none
      | some (.array _ e)=>match qK P e with
        | some n=>match Nat.beq n d.cells.length&&Nat.ble (i*n+n) z.length&&d.cells.all Dv with|true=>iO t ev (spl z (i*n) d.cells) r|false=>none
        | none=>none
      | _=>none
    | _=>none
def jB(ob:Nat→Option AO)(ev:Operand→DV)(size:Nat):Nat→List (Nat×Operand)→Option (List (List PV)×List (Nat×AO)×List Nat)
  | _,[]=>some ([],[],[])
  | i,(j,o)::r =>
    match Nat.beq i j with
    | true=>match ev o with
      | .one d=>match jH ob d.cells,jB ob ev size (i+1) r with
        | some (l,u),some (ls,us,jl)=>match Nat.beq l.length size with|true=>some (l::ls,u++us,dC d++jl)|false=>none
        | _,_=>none
      | _=>none
    | false=>none
def smA:List (List PV)→Bool|[]=>true|c::r=>smL c c&&r.all (smL c)
def BQ(l:List (List PV)):Nat->List PV :=
 match l with
 | []=>λ_=>[]
 | [c]=>λ_=>c
 | c::r=>λi=>match(c::r)[i]? with|some x=>x|none=>c
def Gu(ob:Nat->Option AO)(dst:Option Nat)(o:AO)(d:Nat->DV):aC :=
 match dst with
 | some t=>match ob t with|none=>.val [(t,true)] (d t) [(t,o)] []|some _=>.no
 | none=>.no
def elP(ag:Bool)(l:List PV):PA :=
 match ag,l with|true,l=>.agg l|false,[v]=>.one v|_,_=>.agg []
def Lc(C:List PA->ae (List PA))(caps:List PV)(ag:Bool)(get:Nat->List PV)(i j:Nat):Option Int :=
 (C (elP ag (get i)::elP ag (get j)::caps.map .one)).T λr=>match r with|[.one (.int .i64 c)]=>some c|_=>none
def oJ(C:List PA->ae (List PA))(caps:List PV)(ag:Bool)(get:Nat->List PV)(i j:Nat):Int:=(Lc C caps ag get i j).getD 0
def STO(n:Nat)(c:Nat->Nat->Int):Prop :=
 (∀i,i<n->0<=c i i)/\(∀i j,i<n->j<n->i≠j->(c i j<0/\0<=c j i)\/(c j i<0/\0<=c i j)) /\
 ∀i j k,i<n->j<n->k<n->c i j<0->c j k<0->c i k<0
def zid(n:Nat)(p:Nat->Nat->Bool)(c:Nat->Nat->Int):Bool :=
  (List.range n).all fun i => decide (0 ≤ c i i) && (List.range n).all fun j => p i j && (Nat.beq i j || (decide (c i j < 0) && decide (0 ≤ c j i)) || (decide (c j i < 0) && decide (0 ≤ c i j))) &&
    (List.range n).all λk=>!(decide (c i j<0)&&decide (c j k<0))||decide (c i k<0)
def zys(n:Nat)(p:Nat->Nat->Bool)(c:Nat->Nat->Int):Prop:=n<=4611686018427387/\(∀i j,i<n->j<n->p i j=true)/\STO n c
def zyt(n:Nat)(p:Nat->Nat->Bool)(c:Nat->Nat->Int):CP:=⟨zys n p c,Nat.ble n 4611686018427387&&zid n p c,λh=>by
 rw[fQ,VT]at h;obtain⟨h0,h⟩:=h;simp only[zid,yL,KQ,fQ,V8,oD,JS,jqU,dqM]at h;refine⟨h0,λi j hi hj=>((h i hi).2 j hj).1.1,λi hi=>(h i hi).1,λi j hi hj jb=>?_,λi j k hi hj hk h1 h2=>?_⟩;rcases((h i hi).2 j hj).1.2 with(h1|h1)|h1
 exact absurd (lu h1) jb;exact .inl h1;exact .inr h1;rcases((h i hi).2 j hj).2 k hk with(h3|h3)|h3
 exact absurd h1 h3;exact absurd h2 h3;exact h3⟩
def SK(c:Nat→Nat→Int)(x:Nat):List Nat→List Nat
  | []=>[x]
  | y::r=>match decide (c x y<0)with|true=>x::y::r|false=>y::SK c x r
def yR(n:Nat)(c:Nat->Nat->Int):List Nat:=(List.range n).foldr (SK c) []
def Ld{α:Type}(n:Nat)(c:Nat->Nat->Int)(get:Nat->α):Nat->α:=λi=>get ((yR n c).getD i ((yR n c).getD 0 0))
def zie(get:Nat→List PV):List (Nat×AO)→Bool
  | []=>true
  | u=>match zcz u with|true=>(get 0).all (Bz 8)|false=>(get 0).all jS
def zyu(e:TypeId):List DV→Option (Nat×Nat×(Nat→List PV))
  | [.one (.c (.p (.sl n s get)))]=>some (n,s,get)
  | [.one (.c (.p .nils))]=>match gX P e with
    | some z=>match kC z with|some l=>some (0,l.length,λ_=>l)|none=>none
    | none=>none
  | _=>none
def Le{α:Type}:List α→Option (List α×α)
  | []=>none
  | d::r=>match Le r with|some (l,x)=>some (d::l,x)|none=>some ([],d)
def kL(o:Oper)(k:Gq)(args:List DV)(ob:Nat->Option AO):aC :=
  match k with
  | .none=>.no
  | .sort e s b=>match args with
    | [.one (.c (.vec L)),.one (.c (.p (.fn h [] caps)))]=>match ob L,jG P e with
      | some (.vec e' s' b' n get),some ag=>if e'=e/\s'=s/\b'=b then
          .chk [(L,true)] (zyt n (λi j=>(Lc (Γ.cfn h) caps ag get i j).isSome) (oJ (Γ.cfn h) caps ag get)) (.tup []) [(L,.vec e s b n (Ld n (oJ (Γ.cfn h) caps ag get) get))] []
        else .no
      | _,_=>.no
    | _=>.no
  | .clone e s b=>match zyu P e args,o.dst with
    | some (n,s',get),some dst=>match ob dst,P.info? e,gX P e with
      | none,some ie,some _=>if s'=s/\ie.size=s/\ie.bytes=b/\0<s then
          .chk [(dst,true)] (n*b<=140737488355328/\n<=9223372036854775807) (.cl (.vec dst)) [(dst,.vec e s b n get)] []
        else .no
      | _,_,_=>.no
    | _,_=>.no
  | .mkv e s b F=>match iG ob args,o.dst with
    | some (az,u),some dst=>match(F az).o,ob dst,P.info? e,gX P e with
      | some (n,get,rs),none,some ie,some _=>if ie.size=s/\ie.bytes=b/\0<s/\zie get u=true/\rs.all jS=true then
          .val ((dst,true)::rd (args.flatMap (bG ob)))
            (match rs with|[]=>.cl (.vec dst)|_=>.tup (.c (.vec dst)::rs.map λv=>.c (.p v))) [(dst,.vec e s b n get)] []
        else .no
      | _,_,_,_=>.no
    | _,_=>.no
  | .grow e s b F=>match Le args with
    | some (ds,.one (.c (.vec L)))=>match iG ob ds,ob L with
      | some (az,[]),some (.vec e' s' b' n get)=>match(F az n get).o with
        | some (m,get')=>if e'=e/\s'=s/\b'=b then
            .val ((L,true)::rd (ds.flatMap (bG ob))) (.cl (.vec L)) [(L,.vec e s b m get')] [L]
          else .no
        | none=>.no
      | _,_=>.no
    | some (ds,.one (.c (.p .nils)))=>match iG ob ds,o.dst with
      | some (az,[]),some dst=>match ob dst,P.info? e,gX P e with
        | none,some ie,some z=>match kC z with
          | some l=>match(F az 0 λ_=>l).o with
            | some (m,get')=>if ie.size=s/\ie.bytes=b/\0<s then
                .val ((dst,true)::rd (ds.flatMap (bG ob))) (.cl (.vec dst)) [(dst,.vec e s b m get')] []
              else .no
            | none=>.no
          | none=>.no
        | _,_,_=>.no
      | _,_=>.no
    | _=>.no
def zGR:DV→Option uw|.one (.c (.p v))=>some (.v v)|.one (.c (.ptr L 0))=>some (.b L)|_=>none
def DD(ev:Operand→DV):List Operand→Option (List uw)
  | []=>some []
  | x::r=>match zGR (ev x),DD ev r with|some c,some l=>some (c::l)|_,_=>none
def capD:uw→DV|.v v=>.p v|.b L=>.cl (.ptr L 0)
abbrev lD:=Option (FuncId×Nat×List Nat)
def Lh:List uw→List Nat→Bool|[],[]=>true|.b L::r,M::s=>Nat.beq L M&&Lh r s|_,_=>false
def Wx:List uw→Option (List Nat)
  | []=>some []
  | .b L::r=>match Wx r with|some l=>some (L::l)|none=>none
  | _=>none
def zeY(f:FuncId)(np:Nat)(caps:List uw):lD:=match Wx caps with|some l=>some (f,np,l)|none=>none
def zyv(sf:lD)(f:FuncId)(caps:List uw):Option XC:=match sf with
 | some (f',np,ls)=>match Nat.beq f f'&&Lh caps ls with|true=>some (.slf f' np ls.length)|false=>none
 | none=>none
def iY(sf:lD)(ob:Nat→Option AO):List Cl→Option (List XC×List Nat)
  | []=>some ([],[])
  | c::r=>match iY sf ob r with
    | some (l,ms)=>match c with
      | .p v=>some (.p v::l,ms)
      | .vec M=>match ob M with|some (.vec e s b n get)=>some (.vec e s b n get::l,M::ms)|_=>none
      | .mo M=>match ob M with|some (.mo kt vt q n F)=>some (.mo kt vt q n F::l,M::ms)|_=>none
      | .clo f caps=>match zyv sf f caps with|some x=>some (x::l,ms)|none=>none
      | _=>none
    | none=>none
def tu(ob:Nat->Option AO)(d:DV):Option (XA×List Nat×List Nat) :=
 match AY ob d with|some (x,[])=>some (.d x,[],[])|_=>none
def Bd(sf:lD)(ob:Nat->Option AO)(d:DV):Option (XA×List Nat×List Nat) :=
 match d with
 | .one (.c (.ptr L 0))=>match ob L with
  | some (.box ty cells)=>match iY sf ob cells with|some (cs,ms)=>some (.box ty cs,L::ms,ms)|none=>none
  | _=>tu ob d
 | _=>tu ob d
def kD(sf:lD)(ob:Nat→Option AO):List DV→Option (List XA×List Nat×List Nat)
  | []=>some ([],[],[])
  | d::r=>match Bd sf ob d,kD sf ob r with|some (x,bl,ms),some (xs,bls,mss)=>some (x::xs,bl++bls,ms++mss)|_,_=>none
def iw:List Cl→List XC→Option (List Cl×List (Nat×AO))
  | [],[]=>some ([],[])
  | .p _::cs,.p v::ys=>match iw cs ys with|some (l,u)=>some (.p v::l,u)|none=>none
  | .vec M::cs,.vec e s b n get::ys=>match iw cs ys with|some (l,u)=>some (.vec M::l,(M,.vec e s b n get)::u)|none=>none
  | .mo M::cs,.mo kt vt q n F::ys=>match iw cs ys with|some (l,u)=>some (.mo M::l,(M,.mo kt vt q n F)::u)|none=>none
  | .clo f caps::cs,.slf _ _ _::ys=>match iw cs ys with|some (l,u)=>some (.clo f caps::l,u)|none=>none
  | _,_=>none
def Jy(ob:Nat->Option AO)(d:DV)(y:XA):Option (List (Nat×AO)) :=
 match d with
 | .one (.c (.ptr L 0))=>match ob L with
  | some (.box ty' cells)=>match y with
   | .box ty cs=>match Nat.beq ty ty',iw cells cs with|true,some (l,u)=>some ((L,.box ty l)::u)|_,_=>none
   | .d _=>none
  | _=>match y with|.d _=>some []|.box _ _=>none
 | _=>match y with|.d _=>some []|.box _ _=>none
def jW(ob:Nat→Option AO):List DV→List XA→Option (List (Nat×AO))
  | [],[]=>some []
  | d::ds,y::ys=>match Jy ob d y,jW ob ds ys with|some u,some us=>some (u++us)|_,_=>none
  | _,_=>none
def lS:List Nat→Bool|[]=>true|x::r=>!r.contains x&&lS r
def lF:AO→Bool|.box _ [.clo _ _]=>true|_=>false
def zyw(ty:Nat)(k:IntKind)(n:Int):List PA:=[.one (.fna 4294967295 [.int .i64 ty,.int k n])]
def zoP(ty:Nat)(k:IntKind)(n:Int):List PanicEntry:=[{v:=.iface ty (.agg #[.int k n]),recovered:=false}]
def Gv:List PA→Option (List PanicEntry)
  | [.one (.fna f [.int _ ty,.int k n])]=>match Nat.beq f 4294967295 with|true=>some (zoP ty.toNat k n)|false=>none
  | _=>none
def chR:List PanicEntry→Option (List PA)|[⟨.iface ty (.agg ⟨[.int k n]⟩),false,false⟩]=>some (zyw ty k n)|_=>none
theorem zGS{ch:List PanicEntry}{rs:List PA}(h:chR ch=some rs):Gv rs=some ch:=by
 unfold chR at h;split at h;cases h;rfl;cases h
def qL(args:List DV)(ob:Nat->Option AO)(ls ms:List Nat)(rs:List PA)(ys:List XA):aC:=match jW ob args ys with
 | some u=>match lS ls&&Nat.ble ms.length 1&&ms.all λM=>((u.filter λx=>!lF x.2).map (·.1)).contains M with|true=>.val (wr ((u.filter λx=>!lF x.2).map (·.1))++rd (args.flatMap (bG ob))) (resD rs) (u.filter λx=>!lF x.2) ms|false=>.no
 | none=>.no
def uA(C:MK)(sf:lD)(args:List DV)(ob:Nat->Option AO):aC :=
 match kD sf ob args with
 | some (xs,ls,ms)=>match(C xs).o with
  | some (rs,ys)=>match Gv rs with|none=>qL args ob ls ms rs ys|some _=>.no
  | none=>.no
 | none=>.no
def Qv(ev:Operand→DV):List Operand→List Operand→Option (List PV)
  | [x],[]=>match ev x with|.one (.agg cs)=>kC cs|_=>none
  | _,_=>none
def Gw(d:DV)(ob:Nat->Option AO):Option (Nat×Nat×(Nat->List PV)×List (Nat×Bool)) :=
 match d with
 | .one (.c (.p (.sl n sz get)))=>some (n,sz,get,[])
 | .one (.c (.vec M))=>match ob M with|some (.vec _ sz _ n get)=>some (n,sz,get,[(M,false)])|some (.fvec sz n get)=>some (n,sz,get,[(M,false)])|_=>none
 | _=>none
def SL(e:Nat)(ie:TypeInfo)(dst:Nat)(x s:DV)(ob:Nat->Option AO):aC :=
 match Gw x ob with
 | some (m,sz,new,fps)=>match s with
  | .one (.c (.vec L))=>match ob L with
   | some (.vec e' s' b' n get)=>if e'=e/\s'=ie.size/\b'=ie.bytes/\sz=s'/\0<s'/\bY x≠[L]/\smL (get 0) (new 0)=true then
     .chk ((L,true)::fps) ((n+m)*b'<=140737488355328/\n+m<=9223372036854775807) (.cl (.vec L)) [(L,.vec e s' b' (n+m) (nzG (get 0) (appG n get new)))] [L]
    else .no
   | _=>.no
  | .one (.c (.p .nils))=>match ob dst with
   | none=>if sz=ie.size/\0<sz then
     .chk ((dst,true)::fps) (m*ie.bytes<=140737488355328/\m<=9223372036854775807) (.cl (.vec dst)) [(dst,.vec e sz ie.bytes m new)] []
    else .no
   | some _=>.no
  | _=>.no
 | none=>.no
def aPk(ev:Operand->DV)(c a b:Operand):aC:=match ev c with|.one (.c (.p (.bool t)))=>.val [] (BA t (ev a) (ev b)) [] []|_=>.no
def aAl(o:Oper)(ev:Operand->DV)(ob:Nat->Option AO)(e:TypeId):aC:=match gX P e with|some z=>Gu ob o.dst (.box e z) λt=>.cl (.ptr t 0)|none=>.no
def aBx(o:Oper)(ev:Operand->DV)(ob:Nat->Option AO)(e:TypeId)(x:Operand):aC:=match ev x,qK P e with
  | .one d,some n=>match Nat.beq d.cells.length n&&d.cells.all Dv with|true=>Gu ob o.dst (.box e d.cells) λt=>.cl (.ptr t 0)|false=>.no
  | _,_=>.no
def aBd(ev:Operand->DV)(t:TypeId)(parts:Array (Nat×Operand)):aC:=match yQ P t,gX P t with
  | true,some z=>match iO P t ev z parts.toList with|some l=>.val [] (.one (.agg l)) [] []|none=>.no
  | _,_=>.no
def aBs(o:Oper)(ev:Operand->DV)(ob:Nat->Option AO)(t:TypeId)(n:Nat)(parts:Array (Nat×Operand)):aC:=match P.underlying t with
  | some (.slice e)=>match P.info? e with
   | some ie=>match jB ob ev ie.size 0 parts.toList with
    | some (ls,u,jl)=>match Nat.beq ls.length n&&Nat.ble (n*ie.size) 1000000&&Nat.ble 1 ie.size&&smA (ls.map (Ba P e)),gX P e,o.dst with
     | true,some _,some dst=>match ob dst with|none=>.val (wr jl++[(dst,true)]) (.cl (.vec dst)) ((dst,.vec e ie.size ie.bytes n (nzG (BQ (ls.map (Ba P e)) 0) (BQ (ls.map (Ba P e)))))::u) []|some _=>.no
     | _,_,_=>.no
    | none=>.no
   | none=>.no
  | _=>.no
def aLd(o:Oper)(ev:Operand->DV)(ob:Nat->Option AO)(t:TypeId)(a:Operand):aC:=match jG P t,qK P t with
  | some g,some n=>match ev a with
   | .one (.c (.ptr L off))=>match ob L with
    | some (.box _ cells)=>match oH g n cells off with|some d=>.val [(L,false)] (.one d) [] []|none=>.no
    | some (.fbox cells)=>match oH g n (cells.map .p) off with|some d=>.val [(L,false)] (.one d) [] []|none=>.no
    | _=>.no
   | .one (.c (.p (.fp cells off)))=>match oH g n (cells.map .p) off with|some d=>.val [] (.one d) [] []|none=>.no
   | .one (.c (.vptr L s i k))=>match ob L with
    | some (.vec _ s' _ len get)=>match Nat.beq s s',oH g n ((get i).map .p) k with|true,some d=>.chk [(L,false)] (i<len) (.one d) [] []|_,_=>.no
    | some (.fvec s' len get)=>match Nat.beq s s',oH g n ((get i).map .p) k with|true,some d=>.chk [(L,false)] (i<len) (.one d) [] []|_,_=>.no
    | some (.vv _ _ _ _ _ _ _ _)=>match Nat.beq s 1&&Nat.beq k 0,g with
     | true,false=>match o.dst with
      | some dst=>match ob dst,ob L with|none,some (.vv te bb e s' b len ln get)=>.chk [(L,true),(dst,true)] (i<len) (.cl (.vec dst)) [(dst,.vec e s' b (ln i) (get i)),(L,.vt te bb e s' b len ln get i)] []|_,_=>.no
      | none=>.no
     | _,_=>.no
    | _=>.no
   | _=>.no
  | _,_=>.no
def aSt(ev:Operand->DV)(ob:Nat->Option AO)(t:TypeId)(a x:Operand):aC:=match qK P t,ev a,ev x with
  | some n,.one (.c (.ptr L off)),.one d=>match ob L with
   | some (.box ty cells)=>match Nat.beq d.cells.length n&&Nat.ble (off+n) cells.length&&d.cells.all Dv with|true=>.val [(L,true)] .junk [(L,.box ty (spl cells off d.cells))] []|false=>.no
   | _=>.no
  | some n,.one (.c (.vptr L s i k)),.one d=>match ob L with
   | some (.vec e s' b len get)=>match kC d.cells with
    | some l=>match Nat.beq s s'&&Nat.beq l.length n&&Nat.ble (k+n) s&&smL (((get 0).drop k).take n) l with|true=>.chk [(L,true)] (i<len) .junk [(L,.vec e s' b len (nzG (get 0) (Dw i k get l)))] []|false=>.no
    | none=>.no
   | some (.vt te bb e s' Qh len ln get ii)=>match d with
    | .c (.vec M)=>match ob M with
     | some (.vec e2 s2 b2 m lT)=>match Nat.beq s 1&&Nat.beq k 0&&Nat.beq n 1 && !Nat.beq L M with
      | true=>if e2=e/\s2=s'/\b2=Qh/\smL (get 0 0) (lT 0)=true then
        .chk [(L,true),(M,true)] (i<len/\i=ii/\0<m) .junk [(L,.vv te bb e s' Qh len (pO i m ln) (zyp (get 0 0) (pO i lT get))),(M,.gone)] []
       else .no
      | false=>.no
     | _=>.no
    | _=>.no
   | _=>.no
  | _,_,_=>.no
def aNc(ev:Operand->DV)(x:Operand):aC:=match ev x with|.one (.c (.ptr L off))=>.val [] (.cl (.ptr L off)) [] []|.one (.c (.p (.fp c off)))=>.val [] (.p (.fp c off)) [] []|.one (.c (.vptr L s i k))=>.val [] (.cl (.vptr L s i k)) [] []|_=>.no
def aBn(ev:Operand->DV)(op:BinOp)(t:TypeId)(x y:Operand):aC:=match ev x,ev y with
  | .one (.c (.p (.int k a))),.one (.c (.p (.int k' b)))=>if k=k' then Wu op k a b else zh8 op k a b
  | .one (.c (.p (.bool a))),.one (.c (.p (.bool b)))=>match P.underlying t,op with|some .bool,.eql=>.val [] (.bool (a==b)) [] []|some .bool,.neq=>.val [] (.bool (a != b)) [] []|_,_=>.no
  | .one (.agg cs),.one (.agg ds)=>zcA P op t cs ds
  | _,_=>.no
def aUn(ev:Operand->DV)(op:UnOp)(x:Operand):aC:=match op,ev x with|.not,.one (.c (.p (.bool a)))=>.val [] (.bool (!a)) [] []|.neg,.one (.c (.p (.int k a)))=>.val [] (.p (.int k (k.wrap (0-a)))) [] []|_,_=>.no
def aCv(ev:Operand->DV)(t1 t2:TypeId)(x:Operand):aC:=match P.underlying t1,P.underlying t2,ev x with|some _,some (.int k),.one (.c (.p (.int _ n)))=>.val [] (.p (.int k (k.wrap n))) [] []|_,_,_=>.no
def aFa(ev:Operand->DV)(t:TypeId)(x:Operand)(f:Nat):aC:=match La P t f with
  | some off=>match ev x with|.one (.c (.ptr L k))=>.val [] (.cl (.ptr L (k+off))) [] []|.one (.c (.p (.fp c k)))=>.val [] (.p (.fp c (k+off))) [] []|.one (.c (.vptr L s i k))=>.val [] (.cl (.vptr L s i (k+off))) [] []|_=>.no
  | none=>.no
def aIa(ev:Operand->DV)(ob:Nat->Option AO)(t:TypeId)(x i:Operand):aC:=match P.underlying t with
  | some (.slice e)=>match qK P e,ev i with
   | some n,.one (.c (.p (.int _ j)))=>match ev x with
    | .one (.c (.p (.sl len s get)))=>if s=n then .chk [] (0<=j/\j<(len:Int)) (.p (.fp (get j.toNat) 0)) [] []else .no
    | .one (.c (.vec L))=>match ob L with
     | some (.vec _ s _ len _)=>if s=n then .chk [(L,false)] (0<=j/\j<(len:Int)) (.cl (.vptr L s j.toNat 0)) [] []else .no
     | some (.fvec s len get)=>if s=n then .chk [(L,false)] (0<=j/\j<(len:Int)) (.p (.fp (get j.toNat) 0)) [] []else .no
     | some (.vv _ _ _ _ _ len _ _)=>if n=1 then .chk [(L,false)] (0<=j/\j<(len:Int)) (.cl (.vptr L 1 j.toNat 0)) [] []else .no
     | some (.vt _ _ _ _ _ len _ _ _)=>if n=1 then .chk [(L,false)] (0<=j/\j<(len:Int)) (.cl (.vptr L 1 j.toNat 0)) [] []else .no
     | _=>.no
    | _=>.no
   | _,_=>.no
  | some (.array n e)=>Dx P n e (ev x) (ev i)
  | _=>.no
def aMm(o:Oper)(ev:Operand->DV)(ob:Nat->Option AO)(t:TypeId):aC:=match zyq Γ o.dst with
  | true=>match P.underlying t with
   | some (.map kt vt)=>match KY P kt vt with|some q=>Gu ob o.dst (.mo kt vt q 0 (λ_=>none)) λt=>.cl (.mo t)|none=>.no
   | _=>.no
  | false=>.no
def aLn(ev:Operand->DV)(ob:Nat->Option AO)(args:Array Operand)(argTypes:Array TypeId):aC:=match args.toList,argTypes.toList with
  | [x],[t]=>match P.underlying t with
   | some (.slice _)=>match ev x with
    | .one (.c (.p (.sl n _ _)))=>.val [] (.int n) [] []
    | .one (.c (.p .nils))=>.val [] (.int 0) [] []
    | .one (.c (.vec L))=>match ob L with|some (.vec _ _ _ n _)=>.val [(L,false)] (.int n) [] []|some (.fvec _ n _)=>.val [(L,false)] (.int n) [] []|some (.vv _ _ _ _ _ n _ _)=>.val [(L,false)] (.int n) [] []|_=>.no
    | _=>.no
   | some (.map _ _)=>match ev x with
    | .one (.c (.mo L))=>match ob L with|some (.mo _ _ _ n _)=>.val [(L,false)] (.int n) [] []|_=>.no
    | _=>.no
   | _=>.no
  | _,_=>.no
def aMx(ev:Operand->DV)(args:Array Operand):aC:=match args.toList.map ev with
  | [.one (.c (.p (.int k a))),.one (.c (.p (.int _ b)))]=>.val [] (.p (.int k (if b>a then b else a))) [] []
  | _=>.no
def aMi(ev:Operand->DV)(args:Array Operand):aC:=match args.toList.map ev with
  | [.one (.c (.p (.int k a))),.one (.c (.p (.int _ b)))]=>.val [] (.p (.int k (if b<a then b else a))) [] []
  | _=>.no
def aAp(o:Oper)(ev:Operand->DV)(ob:Nat->Option AO)(args:Array Operand)(argTypes:Array TypeId):aC:=match args.toList,argTypes.toList with
  | [s,x],[t,t']=>match P.underlying t,Nat.beq t t',o.dst with
   | some (.slice e),true,some dst=>match P.info? e,gX P e with|some ie,some _=>SL e ie dst (ev x) (ev s) ob|_,_=>.no
   | _,_,_=>.no
  | _,_=>.no
def aCl(o:Oper)(ev:Operand->DV)(ob:Nat->Option AO)(f:Operand)(args:Array Operand):aC:=match ev f with
    | .one (.c (.clo g caps))=>match Γ.mt g with|some C=>uA C (zeY g args.size caps) (args.toList.map ev++caps.map capD) ob|none=>.no
    | .one (.c (.p (.fn g first caps)))=>match Γ.mt g with
     | some C=>uA C none (first.map (λv=>.p v)++args.toList.map ev++caps.map (λv=>.p v)) ob
     | none=>match(Γ.own g).on with
     | true=>match first,caps with|[],[]=>kL P Γ o (Γ.own g) (args.toList.map ev) ob|_,_=>.no
     | false=>match iG ob (args.toList.map ev)with
      | some (az,u)=>match(Γ.fn g (first.map .one++az++caps.map .one)).o with|some r=>lI (args.toList.flatMap λx=>bG ob (ev x)) u r|none=>.no
      | none=>.no
    | .one (.c (.p (.fna g cells)))=>match iG ob (args.toList.map ev)with
      | some (az,u)=>match(Γ.fn g (.agg cells::az)).o with|some r=>lI (args.toList.flatMap λx=>bG ob (ev x)) u r|none=>.no
      | none=>.no
    | _=>.no
def aMf(ev:Operand->DV)(ob:Nat->Option AO)(f:FuncId)(first caps:Array Operand):aC:=match(Γ.mt f).isSome with
   | true=>match first.toList,DD ev caps.toList with|[],some l=>.val [] (.cl (.clo f l)) [] []|_,_=>.no
   | false=>match Qv ev first.toList caps.toList with
    | some l=>.val [] (.p (.fna f l)) [] []
    | none=>match uy ob (first.toList.flatMap λx=>match ev x with | .one (.c c)=>[c]|_=>[.junk]),uy ob (caps.toList.flatMap λx=>match ev x with | .one (.c c)=>[c]|_=>[.junk])with
    | some (l,u),some (l',u')=>.val (wr ((first.toList++caps.toList).flatMap λx=>bG ob (ev x))) (.p (.fn f l l')) (u++u') []
    | _,_=>.no
def aEx(ev:Operand->DV)(t:Operand)(i:Nat):aC:=match ev t with
  | .tup ds=>match ds[i]? with|some d=>.val [] (.one d) [] []|none=>.no
  | _=>.no
def act(o:Oper)(ev:Operand->DV)(ob:Nat->Option AO):aC :=
 match o.op with
 | .move x=>.val [] (ev x) [] []
 | .assign x=>.val [] (ev x) [] []
 | .pick c a b=>aPk ev c a b
 | .alloc e=>aAl P o ev ob e
 | .box e x=>aBx P o ev ob e x
 | .build t parts=>aBd P ev t parts
 | .buildSlice t n parts=>aBs P o ev ob t n parts
 | .load t a=>aLd P o ev ob t a
 | .store t a x=>aSt P ev ob t a x
 | .nilCheck x=>aNc ev x
 | .binOp op t x y _=>aBn P ev op t x y
 | .unOp op _ x=>aUn ev op x
 | .convert t1 t2 x=>aCv P ev t1 t2 x
 | .fieldAddr t x f=>aFa P ev t x f
 | .indexAddr t x i=>aIa P ev ob t x i
 | .index t x i=>KW P t (ev x) (ev i)
 | .field t x f=>KX P t (ev x) f
 | .slice t x lo hi none=>Dz P t (ev x) (Gt ev lo) (Gt ev hi)
 | .lookup t m k ok=>KZ P t (ev m) (ev k) ok ob
 | .mapUpdate t m k v=>Wv P t (ev m) (ev k) (ev v) ob
 | .makeMap t none=>aMm P Γ o ev ob t
 | .makeSlice t x y=>tK P Γ t (ev x) (ev y) o.dst ob
 | .call {callee:=.builtin .len,args,argTypes}=>aLn P ev ob args argTypes
 | .call {callee:=.builtin .max,args,argTypes:=_}=>aMx ev args
 | .call {callee:=.builtin .min,args,argTypes:=_}=>aMi ev args
 | .call {callee:=.builtin .append,args,argTypes}=>aAp P o ev ob args argTypes
 | .call {callee:=.value f,args,argTypes:=_}=>aCl P Γ o ev ob f args
 | .makeFunc (.func f) first caps=>aMf Γ ev ob f first caps
 | .extract t i=>aEx ev t i
 | _=>.no
end Go.Pm
namespace Go.Pm
def RL{α β:Type}(R:α→β→Prop):List α→List β→Prop|[],[]=>True|a::l,b::m=>R a b/\RL R l m|_,_=>False
section rl
variable{α β:Type}{R R':α->β->Prop}
theorem RL.length{l:List α}{m:List β}(h:RL R l m):l.length=m.length:=by
 induction l generalizing m with
 | nil=>cases m with|nil=>rfl|cons=>exact h.elim
 | cons a l ih=>cases m with|nil=>exact h.elim|cons b m=>simp[ih h.2]
theorem RL.mono{l:List α}{m:List β}(h:RL R l m)(hr:∀a b,R a b->R' a b):RL R' l m:=by
 induction l generalizing m with
 | nil=>cases m with|nil=>trivial|cons=>exact h.elim
 | cons a l ih=>cases m with|nil=>exact h.elim|cons b m=>exact⟨hr _ _ h.1,ih h.2⟩
theorem RL.mono_mem{l:List α}{m:List β}(h:RL R l m)(hr:∀a b,a∈l->R a b->R' a b):RL R' l m:=by
 induction l generalizing m with
 | nil=>cases m with|nil=>trivial|cons=>exact h.elim
 | cons a l ih=>cases m with|nil=>exact h.elim|cons b m=>exact⟨hr _ _ kH h.1,ih h.2 λx y hx=>hr x y (jM _ hx)⟩
theorem RL.get{l:List α}{m:List β}(h:RL R l m):∀(j:Nat)(a:α),l[j]? = some a->∃b,m[j]? = some b/\R a b:=by
 induction l generalizing m with
 | nil=>intro j a hj;simp at hj
 | cons x l ih=>cases m with
  | nil=>exact h.elim
  | cons b m =>
   intro j a hj;cases j with
   | zero=>simp at hj;subst hj;exact⟨b,rfl,h.1⟩
   | succ j=>simp at hj;obtain⟨b',h1,h2⟩:=ih h.2 j a hj;exact⟨b',by simpa using h1,h2⟩
theorem RL.get'{l:List α}{m:List β}(h:RL R l m):∀(j:Nat)(b:β),m[j]? = some b->∃a,l[j]? = some a/\R a b:=by
 induction l generalizing m with
 | nil=>cases m with|nil=>intro j b hj;simp at hj|cons=>exact h.elim
 | cons x l ih=>cases m with
  | nil=>exact h.elim
  | cons y m =>
   intro j b hj;cases j with
   | zero=>simp at hj;subst hj;exact⟨x,rfl,h.1⟩
   | succ j=>simp at hj;obtain⟨b',h1,h2⟩:=ih h.2 j b hj;exact⟨b',by simpa using h1,h2⟩
theorem RL.of_get{l:List α}{m:List β}(hl:l.length=m.length)(h:∀(j:Nat)(a:α)(b:β),l[j]? = some a->m[j]? = some b->R a b):RL R l m:=by
 induction l generalizing m with
 | nil=>cases m with|nil=>trivial|cons=>simp at hl
 | cons x l ih=>cases m with
  | nil=>simp at hl
  | cons y m =>
   refine⟨h 0 x y rfl rfl,ih (by simpa using hl) λj a b ha hb=>h (j+1) a b (by simpa using ha) (by simpa using hb)⟩
theorem RL.append{l l':List α}{m m':List β}(h:RL R l m)(h':RL R l' m'):RL R (l++l') (m++m'):=by
 induction l generalizing m with
 | nil=>cases m with|nil=>exact h'|cons=>exact h.elim
 | cons a l ih=>cases m with|nil=>exact h.elim|cons b m=>exact⟨h.1,ih h.2⟩
theorem RL.set{l:List α}{m:List β}(h:RL R l m)(i:Nat){a:α}{b:β}(hab:R a b):RL R (l.set i a) (m.set i b):=by
 induction l generalizing m i with
 | nil=>cases m with|nil=>trivial|cons=>exact h.elim
 | cons x l ih=>cases m with
  | nil=>exact h.elim
  | cons y m=>cases i with|zero=>exact⟨hab,h.2⟩|succ i=>exact⟨h.1,ih h.2 i⟩
theorem RL.spl{l l':List α}{m m':List β}(h:RL R l m)(h':RL R l' m')(off:Nat):RL R (spl l off l') (Pm.spl m off m'):=by
 induction l' generalizing l m m' off with
 | nil=>cases m' with|nil=>simpa [Pm.spl]using h|cons=>exact h'.elim
 | cons x l' ih=>cases m' with|nil=>exact h'.elim|cons y m'=>simp only[Pm.spl];exact ih (h.set off h'.1) h'.2 _
theorem RL.drop{l:List α}{m:List β}(h:RL R l m)(n:Nat):RL R (l.drop n) (m.drop n):=by
 induction n generalizing l m with
 | zero=>simpa using h
 | succ n ih=>cases l with
  | nil=>cases m with|nil=>trivial|cons=>exact h.elim
  | cons a l=>cases m with|nil=>exact h.elim|cons b m=>simpa using ih h.2
theorem RL.take{l:List α}{m:List β}(h:RL R l m)(n:Nat):RL R (l.take n) (m.take n):=by
 induction n generalizing l m with
 | zero=>simp[RL]
 | succ n ih=>cases l with
  | nil=>cases m with|nil=>trivial|cons=>exact h.elim
  | cons a l=>cases m with|nil=>exact h.elim|cons b m=>exact⟨h.1,ih h.2⟩
theorem RL.map_left{γ:Type}{f:γ->α}{l:List γ}{m:List β}:RL R (l.map f) m↔RL (λx y=>R (f x) y) l m:=by
 induction l generalizing m with|nil=>cases m<;>simp[RL]|cons a l ih=>cases m<;>simp[RL,ih]
end rl
def atP:PV→Bool|.int _ _=>false|.bool _=>false|.sl _ _ _=>false|.fp _ _=>false|_=>true
inductive Sm:PV→PV→Prop
  | int (k:IntKind) (a b:Int):Sm (.int k a) (.int k b)
  | bool (a b:Bool):Sm (.bool a) (.bool b)
  | sl (n m s:Nat) (g g':Nat->List PV) (hl:∀i j:Nat,(g i).length=(g' j).length) (h:∀(i j k:Nat)(x y:PV),(g i)[k]? = some x->(g' j)[k]? = some y->Sm x y):Sm (.sl n s g) (.sl m s g')
  | fp (l l':List PV) (o:Nat) (hl:l.length=l'.length) (h:∀(k:Nat)(x y:PV),l[k]? = some x->l'[k]? = some y->Sm x y):Sm (.fp l o) (.fp l' o)
  | atom (p:PV) (h:atP p=true):Sm p p
theorem Sm.symm{x y:PV}(h:Sm x y):Sm y x:=by
 induction h with|int k a b=>exact .int k b a|bool a b=>exact .bool b a|sl n m s g g' hl h ih=>exact .sl m n s g' g (λi j=>(hl j i).symm) λi j k x y hx hy=>ih j i k y x hy hx|fp l l' o hl h ih=>exact .fp l' l o hl.symm λk x y hx hy=>ih k y x hy hx|atom p h=>exact .atom p h
theorem pz{α β:Type}{l:List α}{m:List β}{k:Nat}{x:α}(h:l.length=m.length)(hx:l[k]? = some x):∃y,m[k]? = some y:=by
 obtain⟨hk,_⟩:=BP.1 hx;exact⟨_,yC (h▸hk)⟩
theorem Sm.trans{x y:PV}(h:Sm x y):∀{z:PV},Sm y z->Sm x z:=by
 induction h with
 | int k a b=>intro z h;cases h with|int _ _ c=>exact .int k a c|atom _ h=>cases h
 | bool a b=>intro z h;cases h with|bool _ c=>exact .bool a c|atom _ h=>cases h
 | sl n m s g g' hl h ih=>intro z h';cases h' with
  | sl _ m' _ _ g2 yK h' =>
   refine .sl n m' s g g2 (λi j=>(hl i 0).trans (yK 0 j)) λi j k x z hx hz=>?_;obtain⟨y,hy⟩:=pz (hl i 0) hx;exact ih i 0 k x y hx hy (h' 0 j k y z hy hz)
  | atom _ h=>cases h
 | fp l l' o hl h ih=>intro z h';cases h' with
  | fp _ l2 _ yK h' =>
   refine .fp l l2 o (hl.trans yK) λk x z hx hz=>?_;obtain⟨y,hy⟩:=pz hl hx;exact ih k x y hx hy (h' k y z hy hz)
  | atom _ h=>cases h
 | atom p h=>intro z h';exact h'
abbrev RS:List PV->List PV->Prop:=RL Sm
def uC(g:Nat->List PV):Prop:=∀i j,RS (g i) (g j)
theorem RS.symm{l m:List PV}(h:RS l m):RS m l:=by
 refine RL.of_get h.length.symm λj a b ha hb=>?_;obtain⟨y,hy,r⟩:=RL.get h j b hb;rw[ha]at hy;cases hy;exact r.symm
theorem RS.trans{l m n:List PV}(h:RS l m)(h':RS m n):RS l n:=by
 refine RL.of_get (h.length.trans h'.length) λj a b ha hb=>?_;obtain⟨y,hy,r⟩:=RL.get h j a ha;obtain⟨z,hz,r'⟩:=RL.get h' j y hy;rw[hb]at hz;cases hz;exact r.trans r'
theorem uC.sl{g g':Nat->List PV}(h:∀i j,RS (g i) (g' j))(n m s:Nat):Sm (.sl n s g) (.sl m s g') :=
 .sl n m s g g' (λi j=>(h i j).length) λi j k x y hx hy=>by
  obtain⟨z,hz,r⟩:=RL.get (h i j) k x hx;rw[hy]at hz;cases hz;exact r
theorem Sm.rows{n m s s':Nat}{g g':Nat->List PV}(h:Sm (.sl n s g) (.sl m s' g')):s=s'/\∀i j,RS (g i) (g' j):=by
 cases h with|sl _ _ _ _ _ hl h=>exact⟨rfl,λi j=>RL.of_get (hl i j) λk a b ha hb=>h i j k a b ha hb⟩|atom _ h=>cases h
theorem zyy:∀{d:Nat}{p q:PV},smB d p q=true->Sm p p->Sm q q->Sm p q:=by
 intro d
 induction d with
 | zero=>intro p q h;cases h
 | succ d ih =>
  have key:∀{l m:List PV},(Nat.beq l.length m.length&&(l.zip m).all λz=>smB d z.1 z.2)=true->RS l l->RS m m->RS l m:=by
   intro l m h hl hm;rw[fQ]at h;refine RL.of_get (lu h.1) λj a b ha hb=>?_;obtain⟨_,ha',ra⟩:=RL.get hl j a ha;obtain⟨_,mP,rb⟩:=RL.get hm j b hb;rw[ha]at ha';rw[hb]at mP;cases ha';cases mP;exact ih (yL.1 h.2 (a,b) (KP (i:=j) (by rw[jqH];exact⟨ha,hb⟩))) ra rb
  intro p q h hp hq;unfold smB at h;split at h;have:=qdE h;subst this;exact .int _ _ _;exact .bool _ _;rw [fQ]at h;have e:=lu h.1;subst e;have h0:=key h.2 (hp.rows.2 0 0) (hq.rows.2 0 0);exact uC.sl (λi j=>((hp.rows.2 i 0).trans h0).trans (hq.rows.2 0 j)) _ _ _;rw [fQ]at h;have e:=lu h.1;subst e;have Qi:∀{l:List PV}{o:Nat},Sm (.fp l o) (.fp l o)->RS l l:=by
   intro l o h;cases h with|fp _ _ _ hl h=>exact RL.of_get hl λk a b ha hb=>h k a b ha hb|atom _ h=>cases h
  have h0:=key h.2 (Qi hp) (Qi hq);exact .fp _ _ _ h0.length λk x y hx hy=>by
   obtain⟨z,hz,r⟩:=RL.get h0 k x hx;rw[hy]at hz;cases hz;exact r
  exact hp;exact hp;exact hp;exact hp;cases h
theorem Sm.cells{l l':List PV}{o:Nat}(h:Sm (.fp l o) (.fp l' o)):RS l l':=by
 cases h with|fp _ _ _ hl h=>exact RL.of_get hl λk a b ha hb=>h k a b ha hb|atom _ h=>cases h
theorem Sm.fp'{l l':List PV}{o:Nat}(h:RS l l'):Sm (.fp l o) (.fp l' o):=.fp _ _ _ h.length λk x y hx hy=>by
 obtain⟨z,hz,r⟩:=RL.get h k x hx;rw[hy]at hz;cases hz;exact r
theorem Lj{l m:List PV}(h:smL l m=true)(hl:RS l l)(hm:RS m m):RS l m:=by
 unfold smL at h;rw[fQ]at h;refine RL.of_get (lu h.1) λj a b ha hb=>?_;obtain⟨_,ha',ra⟩:=RL.get hl j a ha;obtain⟨_,mP,rb⟩:=RL.get hm j b hb;rw[ha]at ha';rw[hb]at mP;cases ha';cases mP;exact zyy (yL.1 h.2 (a,b) (KP (i:=j) (by rw[jqH];exact⟨ha,hb⟩))) ra rb
theorem zoT{n:Nat}{g new:Nat->List PV}(hg:uC g)(hn:uC new)(h:RS (g 0) (new 0)):uC (appG n g new):=by
 have h2:∀i j,RS (g i) (new j):=λi j=>((hg i 0).trans h).trans (hn 0 j);intro i j;unfold appG;split<;>split;exact hn _ _;exact(h2 _ _).symm;exact h2 _ _;exact hg _ _
theorem Ll{c:List PV}(h:RS c c):uC λ_=>c:=λ_ _=>h
theorem wU{g:Nat->List PV}(h:uC g)(f:Nat->Nat):uC λi=>g (f i):=λ_ _=>h _ _
theorem Wy{l:List (List PV)}(h:∀c∈l,RS c c)(hs:smA l=true):uC (BQ l):=by
 have key:∀c r,l=c::r->∀x∈l,RS c x:=by
  intro c r e x hx;subst e;simp only[smA,fQ,yL]at hs;rcases jV.1 hx with rfl|hx
  exact h _ kH;exact Lj (hs.2 x hx) (h _ kH) (h _ (jM _ hx))
 unfold BQ;split;exact λ_ _=>trivial;exact Ll (h _ kH);rename_i c r _;have k2:∀i:Nat,RS c (match(c::r)[i]? with|some x=>x|none=>c):=λi=>by
  split;rename_i x hx;exact key c r rfl x (KP hx);exact h _ kH
 exact λi j=>(k2 i).symm.trans (k2 j)
inductive qy:PV→PV→Prop
  | rfl (p:PV):qy p p
  | nil (s:Nat) (g:Nat->List PV) (h:uC g):qy .nils (.sl 0 s g)
  | sl (n s:Nat) (g g':Nat->List PV) (hu:uC g') (hl:∀i:Nat,i<n->(g i).length=(g' i).length) (h:∀(i k:Nat)(x y:PV),i<n->(g i)[k]? = some x->(g' i)[k]? = some y->qy x y):qy (.sl n s g) (.sl n s g')
  | fp (l l':List PV) (o:Nat) (hl:l.length=l'.length) (h:∀(k:Nat)(x y:PV),l[k]? = some x->l'[k]? = some y->qy x y):qy (.fp l o) (.fp l' o)
  | fn (f:FuncId) (a a' l l':List PV) (ha:a.length=a'.length) (h0:∀(k:Nat)(x y:PV),a[k]? = some x->a'[k]? = some y->qy x y) (hl:l.length=l'.length) (h:∀(k:Nat)(x y:PV),l[k]? = some x->l'[k]? = some y->qy x y):qy (.fn f a l) (.fn f a' l')
theorem mV{f:PV→PV→PV}(hf:∀a b,Sm a b→f a b=b):∀{l m:List PV},RS l m→Jw f l m=m|[],[],_=>rfl|_::_,_::_,h=>by simp only[Jw,qjm,List.tail_cons,hf _ _ h.1,mV hf h.2]|[],_::_,h=>h.elim|_::_,[],h=>h.elim
theorem uD:∀(d:Nat)(a b:PV),Sm a b→shp d a b=b
  | 0,_,_,_=>rfl
  | d+1,a,b,h=>by
    cases h with
    | int=>rfl
    | bool=>rfl
    | sl n m s g g' hl hg =>
      have hr:=(Sm.rows (.sl n m s g g' hl hg)).2;simp only[shp];congr 1;funext i;exact mV (uD d) (hr 0 i)
    | fp l l' o hl hg =>
      simp only[shp];rw[mV (uD d) (Sm.cells (.fp l l' o hl hg))]
    | atom _ ha=>cases a<;>first|rfl|cases ha
theorem zar{row:List PV}{g:Nat->List PV}(h:∀i,RS row (g i)):nzG row g=g:=by
 funext i;exact mV (uD 8) (h i)
theorem zoU{row:List PV}{g:Nat->Nat->List PV}(h:∀i j,RS row (g i j)):zyp row g=g:=by
 funext i j;exact mV (uD 8) (h i j)
structure Sl (α : Type) where
  len:Nat
  get:Nat->α
instance{α:Type}[Inhabited α]:Inhabited (Sl α):=⟨⟨0,λ_=>default⟩⟩
class bD (α : Type) where
  enc:α->List PV
  dec:List PV->α×List PV
  ck:List PV->Option (List PV)
  le:∀{l r:List PV},RS l l->ck l=some r->∃k,l=k++r/\(dec l).2=r/\RL qy k (enc (dec l).1)
  inv:∀{l m r:List PV},RS l m->ck l=some r->∃r',ck m=some r'/\RS r r'
  sm:∀a b:α,RS (enc a) (enc b)
  eq:α->α->Bool
  eqk:∀{a b:α},eq a b=true->RL qy (enc a) (enc b)
instance : bD Int where
  enc x:=[.int .i64 x]
  dec l:=match l with | .int .i64 x::r=>(x,r)|_=>(0,[])
  ck l:=match l with | .int .i64 _::r=>some r|_=>none
  le:=by
    intro l r _ h;split at h;cases h;exact⟨[_],rfl,rfl,.rfl _,trivial⟩;cases h
  inv:=by
    intro l m r h hc;split at hc
    · cases hc
      match m,h with
      | y::m,h =>
        obtain⟨h,h2⟩:=h;cases h with|int=>exact⟨_,rfl,h2⟩|atom _ h=>cases h
    cases hc
  sm a b:=⟨.int _ _ _,trivial⟩
  eq a b:=decide (a=b)
  eqk h:=by rw[of_decide_eq_true h];exact⟨.rfl _,trivial⟩
instance : bD Bool where
  enc x:=[.bool x]
  dec l:=match l with | .bool x::r=>(x,r)|_=>(false,[])
  ck l:=match l with | .bool _::r=>some r|_=>none
  le:=by
    intro l r _ h;split at h;cases h;exact⟨[_],rfl,rfl,.rfl _,trivial⟩;cases h
  inv:=by
    intro l m r h hc;split at hc
    · cases hc
      match m,h with
      | y::m,h =>
        obtain⟨h,h2⟩:=h;cases h with|bool=>exact⟨_,rfl,h2⟩|atom _ h=>cases h
    cases hc
  sm a b:=⟨.bool _ _,trivial⟩
  eq a b:=a==b
  eqk h:=by rw[eq_of_beq h];exact⟨.rfl _,trivial⟩
def Qw(o:Option (List PV)):Bool:=match o with|some []=>true|_=>false
theorem SN{o:Option (List PV)}(h:Qw o=true):o=some []:=by
 unfold Qw at h;split at h;rfl;cases h
theorem oK{α:Type}[bD α]{g:Nat->List PV}(h:uC g)(hc:Qw (bD.ck (α:=α) (g 0))=true)(i:Nat):RL qy (g i) (bD.enc (bD.dec (α:=α) (g i)).1):=by
 obtain⟨r',e,hr⟩:=bD.inv (h 0 i) (SN hc);cases r' with
 | nil =>
  obtain⟨k,e1,_,r⟩:=bD.le (h i i) e;rw[qd1]at e1;rw[<- e1]at r;exact r
 | cons=>exact hr.elim
def dX(p:Nat→Bool):Nat→Bool|0=>true|n+1=>dX p n&&p n
theorem SQ{p:Nat→Bool}:∀{n:Nat},dX p n=true→∀i,i<n→p i=true
  | 0,_,i,hi=>absurd hi (Wi i)
  | n+1,h,i,hi=>by
    simp only[dX,fQ]at h;rcases Nat.lt_succ_iff_lt_or_eq.1 hi with h1|rfl
    exact SQ h.1 i h1;exact h.2
instance {α : Type} [bD α] [Inhabited α] : bD (Sl α) where
  enc x:=[.sl x.len (bD.enc (default:α)).length (λi=>bD.enc (x.get i))]
  dec l:=match l with|.sl n _ g::r=>(⟨n,λi=>(bD.dec (g i)).1⟩,r)|.nils::r=>(⟨0,λ_=>default⟩,r)|_=>(⟨0,λ_=>default⟩,[])
  ck l:=match l with
    | .sl _ s g::r=>match Nat.beq s (bD.enc (default:α)).length&&Qw (bD.ck (α:=α) (g 0))with|true=>some r|false=>none
    | .nils::r=>some r
    | _=>none
  le:=by
    intro l r hl h;split at h;rename_i n s g r';split at h;rename_i hc;rw[Bool.and_eq_true]at hc;cases h;have e:=Nat.eq_of_beq_eq_true hc.1;subst e;have hu:uC g:=hl.1.rows.2;refine⟨[_],rfl,rfl,?_,trivial⟩;have hp:=λi=>oK (α:=α) hu hc.2 i;exact .sl _ _ _ _ (λi j=>bD.sm _ _) (λi _=>(hp i).length) λi k x y _ hx hy=>by
      obtain⟨z,hz,r⟩:=RL.get (hp i) k x hx;rw[hy]at hz;cases hz;exact r
    cases h;cases h;exact⟨[_],rfl,rfl,.nil _ _ λi j=>bD.sm _ _,trivial⟩;cases h
  inv:=by
    intro l m r h hc;split at hc;rename_i n s g r';split at hc
    · rename_i hs;cases hc
      match m,h with
      | y::m,h =>
        obtain⟨h,h2⟩:=h;cases h with
        | sl _ m' _ _ g' hl hg =>
          rw[Bool.and_eq_true]at hs;obtain⟨r',e,hr⟩:=bD.inv (α:=α) ((Sm.rows (.sl n m' s g g' hl hg)).2 0 0) (SN hs.2);cases r' with|nil=>exact⟨m,by simp only[hs.1,e];rfl,h2⟩|cons=>exact hr.elim
        | atom _ h=>cases h
    cases hc
    · cases hc
      match m,h with
      | y::m,h =>
        obtain⟨h,h2⟩:=h;cases h with|atom _ _=>exact⟨m,rfl,h2⟩
    cases hc
  sm a b:=⟨uC.sl (λi j=>bD.sm _ _) _ _ _,trivial⟩
  eq a b:=Nat.beq a.len b.len&&dX (λi=>bD.eq (a.get i) (b.get i)) a.len
  eqk:=by
    intro a b h;obtain⟨n,f⟩:=a;obtain⟨m,f'⟩:=b;rw[Bool.and_eq_true]at h;have e:n=m:=Nat.eq_of_beq_eq_true h.1;subst e;have key:=λi (hi:i<n)=>bD.eqk (SQ h.2 i hi);exact⟨.sl _ _ _ _ (λi j=>bD.sm _ _) (λi hi=>(key i hi).length) λi k x y hi hx hy=>by
      obtain⟨z,hz,r⟩:=RL.get (key i hi) k x hx;rw[hy]at hz;cases hz;exact r,trivial⟩
theorem zcC{α β:Type}{R:α→β→Prop}:∀{a:List α}{b:List β}{c:List α}{d:List β},RL R a b→RL R c d→RL R (a++c) (b++d)|[],[],_,_,_,h=>h|_::_,_::_,_,_,h,h'=>⟨h.1,zcC h.2 h'⟩
instance {α β : Type} [bD α] [bD β] : bD (α × β) where
  enc:=λx=>bD.enc x.1++bD.enc x.2
  dec:=λl=>(((bD.dec (α:=α) l).1,(bD.dec (α:=β) (bD.dec (α:=α) l).2).1),(bD.dec (α:=β) (bD.dec (α:=α) l).2).2)
  ck:=λl=>match bD.ck (α:=α) l with|some r=>bD.ck (α:=β) r|none=>none
  le:=by
    intro l r hl h;split at h;rename_i r1 h1;obtain⟨k1,e1,d1,p1⟩:=bD.le hl h1;obtain⟨r1',e1',s1⟩:=bD.inv hl h1;rw[h1]at e1';cases e1';obtain⟨k2,e2,d2,p2⟩:=bD.le s1 h;refine⟨k1++k2,by rw[List.append_assoc,<- e2];exact e1,?_,?_⟩;simp only[d1];exact d2;simp only[d1];exact zcC p1 p2;cases h
  inv:=by
    intro l m r h hc;split at hc;rename_i r1 h1;obtain⟨r1',e1,s1⟩:=bD.inv h h1;obtain⟨r2',e2,s2⟩:=bD.inv s1 hc;exact⟨r2',by rw[e1];exact e2,s2⟩;cases hc
  sm a b:=zcC (bD.sm _ _) (bD.sm _ _)
  eq a b:=bD.eq a.1 b.1&&bD.eq a.2 b.2
  eqk h:=by rw[Bool.and_eq_true]at h;exact zcC (bD.eqk h.1) (bD.eqk h.2)
structure Pt (α : Type) where
  v:α
instance{α:Type}[Inhabited α]:Inhabited (Pt α):=⟨⟨default⟩⟩
instance {α : Type} [bD α] : bD (Pt α) where
  enc:=λx=>[.fp (bD.enc x.v) 0]
  dec:=λl=>match l with|.fp k _::r=>(⟨(bD.dec k).1⟩,r)|_=>(⟨(bD.dec []).1⟩,[])
  ck:=λl=>match l with
    | .fp k 0::r=>match Qw (bD.ck (α:=α) k)with|true=>some r|false=>none
    | _=>none
  le:=by
    intro l r hl h;split at h;split at h;rename_i hc;cases h;obtain⟨k',e1,_,p⟩:=bD.le hl.1.cells (SN hc);rw[List.append_nil]at e1;rw[<- e1]at p;exact⟨[_],rfl,rfl,.fp _ _ _ p.length λk x y hx hy=>by
      obtain⟨z,hz,r⟩:=RL.get p k x hx;rw[hy]at hz;cases hz;exact r,trivial⟩
    cases h;cases h
  inv:=by
    intro l m r h hc;split at hc;split at hc
    · rename_i hs;cases hc
      match m,h with
      | y::m,h =>
        obtain⟨h,h2⟩:=h;cases h with
        | fp _ l' _ hl hg =>
          obtain⟨r',e,hr⟩:=bD.inv (α:=α) (Sm.cells (.fp _ _ 0 hl hg)) (SN hs);cases r' with|nil=>exact⟨m,by simp only[e];rfl,h2⟩|cons=>exact hr.elim
        | atom _ h=>cases h
    cases hc;cases hc
  sm a b:=⟨Sm.fp' (bD.sm _ _),trivial⟩
  eq a b:=bD.eq a.v b.v
  eqk h:=⟨.fp _ _ _ (bD.eqk h).length λk x y hx hy=>by
    obtain⟨z,hz,r⟩:=RL.get (bD.eqk h) k x hx;rw[hy]at hz;cases hz;exact r,trivial⟩
abbrev bD.iso {α β : Type} [bD α] (f : α → β) (g : β → α) (hg : ∀ a, g (f a) = a) : bD β where
  enc:=λb=>bD.enc (g b)
  dec:=λl=>(f (bD.dec (α:=α) l).1,(bD.dec (α:=α) l).2)
  ck:=bD.ck (α:=α)
  le:=by
    intro l r hl h;rw[hg];exact bD.le hl h
  inv:=bD.inv
  sm a b:=bD.sm _ _
  eq a b:=bD.eq (g a) (g b)
  eqk h:=bD.eqk h
end Go.Pm
namespace Go.Pm
def Lm(b:Bool)(x y:Prop):Prop:=match b with|true=>x|false=>y
theorem rD{b:Bool}{x y:Prop}:Lm b x y↔((b=true->x)/\(b=false->y)):=by
 cases b<;>simp[Lm]
theorem DF{b:Bool}{x y:Prop}(h1:b=true->x)(h2:b=false->y):Lm b x y:=rD.2 ⟨h1,h2⟩
structure Keep where
  tmps:List Nat
  coT:List (Nat×Nat×Nat)
  coB:List (Nat×Nat×Nat×Nat)
  coV:List (Nat×Nat×Nat×Nat×Nat)
  coF:List Nat
  coZ:List Nat
  nf:List (Nat×Nat×Nat×Nat)
structure dG where
  nt:Nat
  reg:List (Nat×Keep)
  head:List (Nat×Keep)
  cut:List (Nat×Keep)
  unr:List (Nat×Nat×Keep)
  yl:List Nat
  pan:List Nat
def St.setT(σ:St)(t:Nat)(d:DV):St:={σ with env:=(t,d)::σ.env}
def gu(l:List Nat)(x:Cl):Cl :=
 match x with
 | .vec L=>match l.contains L with|true=>.dead L|false=>.vec L
 | .vptr L s i k=>match l.contains L with|true=>.dead L|false=>.vptr L s i k
 | .mo L=>match l.contains L with|true=>.dead L|false=>.mo L
 | x=>x
def fV(l:List Nat):D1→D1|.c x=>.c (gu l x)|.agg cs=>.agg (cs.map (gu l))
def gU(l:List Nat):DV→DV|.one d=>.one (fV l d)|.tup ds=>.tup (ds.map (fV l))
def fE(l:List Nat):AO→AO|.box ty cs=>.box ty (cs.map (gu l))|o=>o
def kills{α:Type}(f:α→α):List (Nat×α)→List (Nat×α)|[]=>[]|(k,a)::r=>(k,f a)::kills f r
def St.upd(σ:St)(_i:Nat)(dst:Option Nat)(_fp:List (Nat×Bool))(d:DV)(u:List (Nat×AO))(kill:List Nat):St :=
  match kill with
  | [] => { env := match dst with | some t => (t, d) :: σ.env | none => σ.env
            ax:=u++σ.ax
            log:=σ.log}
  | kill => { env := match dst with | some t => (t, d) :: kills (gU kill) σ.env | none => kills (gU kill) σ.env
              ax:=u++kills (fE kill) σ.ax
              log:=σ.log}
def St.skip(σ:St)(dst:Option Nat):St :=
 match dst with|some t=>σ.setT t (.cl .undef)|none=>σ
def dH(nt:Nat):Option Nat→Bool|none=>true|some t=>Nat.blt t nt
def St.relog(σ:St)(l:List (Nat×Nat×Nat)):St:={σ with log:=l++σ.log}
def PP(σ:St):List Nat→List Nat
  | []=>[]
  | L::_=>(σ.ax.map (·.1)).filter λk=>match lk σ.ax k with|some o=>(qw o).contains L|none=>false
def Lp(σ:St)(o:Oper)(fp:List (Nat×Bool)):List Nat :=
 (o.op.operands.toList.flatMap λx=>mr (fU σ.env x))++fp.flatMap λx=>match lk σ.ax x.1 with|some ob=>qw ob|none=>[]
def pR(σ:St)(i:Nat)(o:Oper)(fp:List (Nat×Bool))(kl:List Nat):List (Nat×Nat×Nat) :=
 (fp.map λx=>(i,x.1,match x.2 with|true=>1|false=>0))++((Lp σ o fp).map λL=>(i,L,2))++(kl.map λL=>(i,L,3))++((PP σ kl).map λL=>(i,L,1))
def nY(A:aC)(lg:List (Nat×Bool)->List Nat->List (Nat×Nat×Nat))(i:Nat)(dst:Option Nat)(K:St->Prop)(σ:St):Prop :=
 match A with|.no=>False|.val fp d u kl=>K ((σ.upd i dst fp d u kl).relog (lg fp kl))|.chk fp s d u kl=>s.p/\K ((σ.upd i dst fp d u kl).relog (lg fp kl))
section
variable(P:Program)(Γ:bI)
def kE(nt:Nat)(ops:Array Oper):Nat→List Oper→(St→Prop)→St→Prop
  | _,[],K,σ=>K σ
  | i,o::r,K,σ =>
    match dH nt o.dst with
    | false=>False
    | true =>
    match o.guard with
    | none=>nY (act P Γ o (fU σ.env) (lk σ.ax)) (pR σ i o) i o.dst (kE nt ops (i+1) r K) σ
    | some (j,want) =>
      match(ops[j]?).bind (·.dst)with
      | none=>False
      | some g =>
        match lk σ.env g with
        | some (.one (.c (.p (.bool b)))) =>
          Lm b
            (match want with|true=>nY (act P Γ o (fU ((g,.bool true)::σ.env)) (lk σ.ax)) (pR (σ.setT g (.bool true)) i o) i o.dst (kE nt ops (i+1) r K) (σ.setT g (.bool true))|false=>kE nt ops (i+1) r K ((σ.setT g (.bool true)).skip o.dst))
            (match want with|true=>kE nt ops (i+1) r K ((σ.setT g (.bool false)).skip o.dst)|false=>nY (act P Γ o (fU ((g,.bool false)::σ.env)) (lk σ.ax)) (pR (σ.setT g (.bool false)) i o) i o.dst (kE nt ops (i+1) r K) (σ.setT g (.bool false)))
        | some (.one (.c .undef))=>kE nt ops (i+1) r K (σ.skip o.dst)
        | _=>False
def BR(ms:List Nat):List Edge→Nat
  | []=>0
  | e::r=>match Region.binds .any e,ms[e.on]? with
    | true,some m=>(2^e.on ||| m) ||| BR ms r
    | _,_=>BR ms r
def masks:List Oper→List Nat→List Nat|[],ms=>ms|o::r,ms=>masks r (ms++[BR ms o.after.toList])
def zas:Operand→List Nat|.tmp t=>[t]|_=>[]
def gdT(ops:Array Oper)(o:Oper):List Nat :=
 match o.guard with
 | some (j,_)=>match(ops[j]?).bind (·.dst)with|some g=>[g]|none=>[]
 | none=>[]
def uF(ops:Array Oper)(o:Oper):List Nat:=o.op.operands.toList.flatMap zas++gdT ops o
def meets(l:List Nat)(d:Option Nat):Bool:=match d with|some t=>l.contains t|none=>false
def zcD(d e:Option Nat):Bool:=match d,e with|some t,some u=>Nat.beq t u|_,_=>false
def Lr(ops:Array Oper)(a b:Oper):Bool :=
 meets (uF ops b) a.dst||meets (uF ops a) b.dst||zcD a.dst b.dst
def BU(ops:Array Oper)(ms:List Nat):Bool :=
 (List.range ops.size).all λj=>(List.range j).all λi =>
  match ops[i]?,ops[j]?,ms[j]? with
  | some a,some b,some m=>!Lr ops a b||m.testBit i
  | _,_,_=>false
def Ls(ops:Array Oper):Bool :=
 (List.range ops.size).all λi=>match ops[i]? with
  | some o=>o.after.toList.all λe=>!Region.binds .any e||Nat.blt e.on i
  | none=>true
def zat(k l:Nat):Bool :=
 match k,l with|0,1=>true|1,0=>true|1,1=>true|2,3=>true|3,2=>true|3,3=>true|_,_=>false
def vI(ms:List Nat)(log:List (Nat×Nat×Nat)):Bool :=
 log.all λx=>log.all λy =>
  !Nat.blt x.1 y.1 || !Nat.beq x.2.1 y.2.1 || !zat x.2.2 y.2.2||(match ms[y.1]? with|some m=>m.testBit x.1|none=>false)
def tN(x:Cl):Cl:=match x with | .dead _=>.junk|x=>x
def yS:D1→D1|.c x=>.c (tN x)|.agg cs=>.agg (cs.map tN)
def SS:DV→DV|.one d=>.one (yS d)|.tup ds=>.tup (ds.map yS)
def JV:AO→AO|.box ty cs=>.box ty (cs.map tN)|o=>o
def mW:List (Nat×Nat×Nat)→St→Option St
  | [],σ=>some σ
  | (t,L,e)::r,σ=>match lk σ.env t with
    | some (.one (.c (.p .nils)))=>match lk σ.ax L,P.info? e,gX P e with
      | none,some ie,some _=>match Nat.ble 1 ie.size with|true=>mW r {env:=(t,.cl (.vec L))::σ.env,ax:=(L,.vec e ie.size ie.bytes 0 (λ_=>Dy P e))::σ.ax,log:=σ.log}|false=>none
      | _,_,_=>none
    | some (.one (.c (.vec _)))=>mW r σ
    | _=>none
def mX:List (Nat×Nat×Nat×Nat)→St→Option St
  | [],σ=>some σ
  | (B,k,L,e)::r,σ=>match lk σ.ax B with
    | some (.box ty cs)=>match cs[k]? with
      | some (.p .nils)=>match lk σ.ax L,P.info? e,gX P e with
        | none,some ie,some _=>match Nat.ble 1 ie.size with|true=>mX r {env:=σ.env,ax:=(B,.box ty (cs.set k (.vec L)))::(L,.vec e ie.size ie.bytes 0 (λ_=>Dy P e))::σ.ax,log:=σ.log}|false=>none
        | _,_,_=>none
      | some (.vec _)=>mX r σ
      | _=>none
    | _=>none
def mY:List (Nat×Nat×Nat×Nat×Nat)→St→Option St
  | [],σ=>some σ
  | (B,k,L,te,e)::r,σ=>match lk σ.ax B with
    | some (.box ty cs)=>match cs[k]? with
      | some (.p .nils)=>match lk σ.ax L,P.info? te,gX P te with
        | none,some it,some _=>match P.info? e,gX P e with
          | some ie,some _=>match Nat.beq it.size 1&&Nat.ble 1 ie.size with|true=>mY r {env:=σ.env,ax:=(B,.box ty (cs.set k (.vec L)))::(L,.vv te it.bytes e ie.size ie.bytes 0 (λ_=>0) (λ_ _=>Dy P e))::σ.ax,log:=σ.log}|false=>none
          | _,_=>none
        | _,_,_=>none
      | some (.vec _)=>mY r σ
      | _=>none
    | _=>none
def yc{α:Type}(f:α→α)(l:List (Nat×α)):List Nat→List (Nat×α)
  | []=>[]
  | t::r=>match lk l t with|some d=>(t,f d)::yc f l r|none=>yc f l r
def BV:List Nat→Nat→List Nat
  | [],x=>[x]
  | y::r,x=>match Nat.beq x y with|true=>y::r|false=>y::BV r x
def zoV(ob:Nat->Option AO)(l:List Nat):List Nat:=l.foldl (λa L=>match ob L with|some o=>(dS o).foldl BV a|none=>a) l
def zyz(ob:Nat->Option AO)(env:List (Nat×DV)):List Nat :=
 zoV ob (zoV ob (zoV ob (zoV ob (env.foldl (λa x=>(bY x.2).foldl BV a) []))))
def zau(jl:List Nat)(l:List Nat):Bool:=l.all λL=>jl.contains L
def Gx(ob:Nat→Option AO):List Nat→List (Nat×AO)
  | []=>[]
  | L::r=>match ob L with
    | some (.box _ cells)=>match jH ob cells with|some (l,[])=>(L,.fbox l)::Gx ob r|_=>Gx ob r
    | _=>Gx ob r
def PQ(ob:Nat→Option AO):List Nat→List (Nat×AO)
  | []=>[]
  | L::r=>match ob L with|some (.vec _ size _ len get)=>(L,.fvec size len get)::PQ ob r|_=>PQ ob r
def ze0(l:List Nat)(σ:St):St:={env:=σ.env,ax:=(Gx (lk σ.ax) l++PQ (lk σ.ax) l)++σ.ax,log:=σ.log}
def ze1(σ:St)(n:Nat):St:=match Nat.ble 1000000 n with
 | false=>σ
 | true=>match lk σ.ax ((n-1000000)/64)with
  | some (.box ty cs)=>match cs[(n-1000000)%64]? with
   | some (.vec L)=>match lk σ.ax L with|some (.vec _ s _ len get)=>{env:=σ.env,ax:=((n-1000000)/64,.box ty (cs.set ((n-1000000)%64) (.p (.sl len s get))))::([(L,.fvec s len get)]++σ.ax),log:=σ.log}|_=>σ
   | _=>σ
  | _=>σ
def coP:List Nat→St→St|[],σ=>σ|n::r,σ=>coP r (ze1 σ n)
def mZ:List Nat→St→Option St
  | [],σ=>some σ
  | t::r,σ=>match lk σ.env t with
    | some (.one (.c x))=>match x with
      | .p _=>mZ r σ
      | _=>match frz (lk σ.ax) x with|some (v,u)=>mZ r {env:=(t,.p v)::σ.env,ax:=u++σ.ax,log:=σ.log}|none=>none
    | _=>none
def Gy(e:Nat):Cl→Cl
  | .p .nils=>match qK P e with|some s=>.p (.sl 0 s (λ_=>Dy P e))|none=>.p .nils
  | x=>x
def WA(b:Nat)(f:Cl->Cl)(l:List Cl):List Cl:=match l[b]? with|some x=>l.set b (f x)|none=>l
def zav{α:Type}(k:Nat)(x:α):List (Nat×α)→List (Nat×α)
  | []=>[]
  | (j,y)::r=>match Nat.beq j k with|true=>(j,x)::r|false=>(j,y)::zav k x r
def nf1(k a b e:Nat)(σ:St):St :=
 match k with
 | 0=>match lk σ.env a with|some (.one (.c x))=>{env:=zav a (.one (.c (Gy P e x))) σ.env,ax:=σ.ax,log:=σ.log}|some (.one (.agg cs))=>{env:=zav a (.one (.agg (WA b (Gy P e) cs))) σ.env,ax:=σ.ax,log:=σ.log}|_=>σ
 | _=>match lk σ.ax a with|some (.box ty cs)=>{env:=σ.env,ax:=zav a (.box ty (WA b (Gy P e) cs)) σ.ax,log:=σ.log}|_=>σ
def JW:List (Nat×Nat×Nat×Nat)→St→St|[],σ=>σ|(k,a,b,e)::r,σ=>JW r (nf1 P k a b e σ)
def yU(k:Keep)(σ:St):Option St :=
  match mW P k.coT σ with
  | none=>none
  | some σ1=>match mX P k.coB σ1 with
    | none=>none
    | some σ2=>match mY P k.coV σ2 with
     | none=>none
     | some σ3 =>
      let env:=yc SS σ3.env k.tmps;let jl:=zyz (lk σ3.ax) env;let ax:=yc JV σ3.ax jl
      match(env.all λx=>zau jl (bY x.2))&&(ax.all λx=>zau jl (dS x.2))with|true=>some ⟨env,ax,[]⟩|false=>none
def canon(k:Keep)(σ:St):Option St :=
 match mZ k.coZ (coP k.coF (ze0 k.coF σ))with
 | some s=>match yU P k s with|some s=>some (JW P k.nf s)|none=>none
 | none=>none
def Qx(aQ:dG)(id:Nat)(ops:Array Oper)(draw:Bool)(K:St->Prop)(σ:St):Prop :=
 match draw with
 | false=>kE P Γ aQ.nt ops 0 ops.toList (λσ'=>match lk aQ.reg id with
   | some k=>match canon P k σ' with|some s=>K s|none=>False
   | none=>K σ') {σ with log:=[]}
 | true=>match P.follows .mixedOrders&&Ls ops&&BU ops (masks ops.toList [])with
  | true=>kE P Γ aQ.nt ops 0 ops.toList (λσ'=>match vI (masks ops.toList []) σ'.log with
   | true=>match lk aQ.reg id with
    | some k=>match canon P k σ' with|some s=>K s|none=>False
    | none=>False
   | false=>False) {σ with log:=[]}
  | false=>False
def ze2(aQ:dG)(id:Nat)(K:St->Prop)(σ:St):Prop:=match lk aQ.reg id with
 | some k=>match canon P k σ with|some s=>K s|none=>False
 | none=>K σ
def qA{α:Type}:List α→Option (List α×α)
  | []=>none
  | o::r=>match qA r with|some (p,l)=>some (o::p,l)|none=>some ([],o)
def ze3(nt:Nat)(m p:Oper):Option (TypeId×Nat×Nat):=match m.op,m.dst,m.guard,p.op,p.guard with
 | .makeInterface ty (.tmp x),some y,none,.panic (.tmp y'),none=>match Nat.beq y y'&&Nat.blt y nt with
  | true=>match P.underlying ty with|some (.struct _)=>some (ty,x,y)|_=>none
  | false=>none
 | _,_,_,_,_=>none
def ze4(o:Oper)(σ:St):Option (MK×List XA×List DV×List Nat×List Nat):=match o.op with
 | .call {callee:=.value f,args,argTypes:=_}=>match fU σ.env f with
  | .one (.c (.clo g caps))=>match Γ.mt g with
   | some C=>match kD (zeY g args.size caps) (lk σ.ax) (args.toList.map (fU σ.env)++caps.map capD)with|some (xs,ls,ms)=>some (C,xs,args.toList.map (fU σ.env)++caps.map capD,ls,ms)|none=>none
   | none=>none
  | _=>none
 | _=>none
def PR(i:Nat)(dst:Option Nat)(σ:St):aC→Option St|.val fp d u kl=>some (σ.upd i dst fp d u kl)|_=>none
def zaw(aQ:dG)(id i:Nat)(o:Oper)(K:Exit->St->Prop)(σ:St):Prop :=
 match o.guard,dH aQ.nt o.dst with
 | none,true=>match ze4 Γ o σ with
  | some (C,xs,ds,ls,ms)=>match(C xs).o with
   | some (rs,ys)=>match Gv rs with
    | none=>match PR i o.dst σ (qL ds (lk σ.ax) ls ms rs ys)with|some σ2=>ze2 P aQ id (K .normal) σ2|none=>False
    | some ch=>match PR i none σ (qL ds (lk σ.ax) ls ms rs ys)with|some σ2=>K (.panic ch) σ2|none=>False
   | none=>False
  | none=>False
 | _,_=>False
def zyA(ty:TypeId)(x y:Nat)(K:Exit->St->Prop)(σ:St):Prop:=match lk σ.env x with|some (.one (.agg [.p (.int k n)]))=>K (.panic (zoP ty k n)) ⟨(y,.junk)::σ.env,σ.ax,[]⟩|_=>False
def Lt(aQ:dG)(id:Nat)(ops:Array Oper)(K:Exit->St->Prop)(σ:St):Prop :=
 match qA ops.toList with
 | some (p1,l)=>match qA p1 with
  | some (pre,m)=>match ze3 P aQ.nt m l with
   | some (ty,x,y)=>kE P Γ aQ.nt ops 0 pre (zyA ty x y K) {σ with log:=[]}
   | none=>kE P Γ aQ.nt ops 0 p1 (zaw P Γ aQ id p1.length l K) {σ with log:=[]}
  | none=>False
 | none=>False
def jQ:Code→Nat
  | .region id _ _=>id
  | .seq a _=>jQ a
  | .block _ b=>jQ b
  | .loop b=>jQ b
  | .scope b=>jQ b
  | .cond _ a b=>match Nat.beq (jQ a) 1000000 with|true=>jQ b|false=>jQ a
  | _=>1000000
def zoW(aQ:dG)(r:Nat)(go:St->Prop)(σ:St):Prop :=
 match lk aQ.cut r with
 | some k=>match canon P k σ with|some s=>go s|none=>False
 | none=>go σ
def ze5(next:St→Prop)(K:Exit→St→Prop):Exit→St→Prop
  | .normal,σ=>next σ
  | e,σ=>K e σ
def zax(id:Nat)(K:Exit→St→Prop):Exit→St→Prop
  | .exit i,σ=>match Nat.beq i id with|true=>K .normal σ|false=>K (.exit i) σ
  | e,σ=>K e σ
def zyB(K:Exit→St→Prop):Exit→St→Prop|.goto _,_=>False|e,σ=>K e σ
def zih(aQ:dG)(id:Nat)(X:St→Prop)(K:Exit→St→Prop):Exit→St→Prop
  | .normal,σ=>match lk aQ.head id with
    | some k=>match canon P k σ with|some s=>X s|none=>False
    | none=>False
  | e,σ=>K e σ
def yf(σ:St)(c:Operand)(b:Bool):St:=match c with | .tmp t=>σ.setT t (.bool b)|_=>σ
def ze6(k:Keep)(step:(Exit→St→Prop)→St→Prop):Nat→(Exit→St→Prop)→St→Prop
  | 0,_,_=>False
  | n+1,K,σ=>match canon P k σ with
    | some s=>step (λe σ'=>match e with | .normal=>ze6 k step n K σ'|e=>K e σ') s
    | none=>False
def Jz:List Oper→List Nat
  | []=>[]
  | o::r=>match o.dst with|some t=>t::Jz r|none=>Jz r
def IC:Nat:=4294967296
def eG:Code→List Nat|.region _ ops _=>Jz ops.toList|.seq a b=>eG a++eG b|.cond _ a b=>eG a++eG b|.block _ b=>eG b|.loop b=>eG b|.scope b=>eG b|.rangeFunc _ _ a b=>IC::(eG a++eG b)|_=>[]
def zay(a b:Code):Nat:=match Nat.beq (jQ a) 1000000 with|true=>jQ b|false=>jQ a
def nR(l m:List Nat):Bool:=l.all λt=>!m.contains t
def qM:List Nat→List PA→List (Nat×DV)→Option (List (Nat×DV))|[],[],e=>some e|p::ps,y::ys,e=>qM ps ys ((p,.one (JU y))::e)|_,_,_=>none
def uG(k:Keep)(np:Bool)(next:St→Prop)(K:Exit→St→Prop):Exit→St→Prop
  | .normal,σ=>match canon P k σ with|some s=>next s|none=>False
  | .ret,σ=>match canon P k σ with|some s=>K .ret s|none=>False
  | .exit id,σ=>match canon P k σ with|some s=>K (.exit id) s|none=>False
  | .panic ch,σ=>match np,canon P k σ with|true,some s=>K (.panic ch) s|_,_=>False
  | _,_=>False
def vc(aQ:dG):Code→(Exit→St→Prop)→St→Prop
  | .skip,K,σ=>K .normal σ
  | .region id ops draw,K,σ=>match aQ.pan.contains id && !draw with|false=>Qx P Γ aQ id ops draw (K .normal) σ|true=>Lt P Γ aQ id ops K σ
  | .seq a b,K,σ=>vc aQ a (ze5 (zoW P aQ (jQ b) (vc aQ b K)) K) σ
  | .cond c a b,K,σ=>match fU σ.env c with|.one (.c (.p (.bool t)))=>Lm t (vc aQ a K (yf σ c true)) (vc aQ b K (yf σ c false))|_=>False
  | .block id b,K,σ=>vc aQ b (zax id K) σ
  | .loop b,K,σ=>match lk aQ.head (jQ b)with
    | some k=>match canon P k σ with|some s=>∀X:St->Prop,(∀s,vc aQ b (zih P aQ (jQ b) X K) s->X s)->X s|none=>False
    | none=>match lk aQ.unr (jQ b)with|some (n,k)=>ze6 P k (vc aQ b) n K σ|none=>False
  | .rangeFunc f ps assign body,K,σ=>match lk aQ.head (zay assign body)with
    | some k=>match canon P k σ,nR k.tmps (ps.toList++(eG assign++eG body))&&ps.toList.all (λp=>Nat.blt p aQ.nt)with
      | some s,true=>match fU s.env f with
        | .one (.c (.p (.fn gf [] caps)))=>match(Γ.it gf (caps.map .one)).o with
          | some ys=>∀X:List (List PA)->St->Prop,(∀s,K .normal s->X [] s) ->
            (∀y rest s,(match qM ps.toList y s.env with|some env=>vc aQ assign (ze5 (vc aQ body (uG P k (nR [IC] (eG assign++eG body)) (X rest) K)) λ_ _=>False) ⟨env,s.ax,[]⟩|none=>False)->X (y::rest) s)->X ys s
          | none=>False
        | _=>False
      | _,_=>False
    | none=>False
  | .exit id,K,σ=>K (.exit id) σ
  | .scope b,K,σ=>vc aQ b (zyB K) σ
  | .label _,K,σ=>K .normal σ
  | .ret,K,σ=>K .ret σ
  | _,_,_=>False
def kX(σ:St):List ResultVar→Option (List PA)
  | []=>some []
  | .tmp t::r=>match lk σ.env t with
    | some d=>match AY (lk σ.ax) d,kX σ r with|some (x,_),some l=>some (x::l)|_,_=>none
    | none=>none
  | .cell t ty::r=>match lk σ.env t,jG P ty,qK P ty with
    | some (.one (.c (.ptr L off))),some g,some n=>match lk σ.ax L with
      | some (.box _ cells)=>match oH g n cells off with
        | some d=>match AY (lk σ.ax) (.one d),kX σ r with|some (x,_),some l=>some (x::l)|_,_=>none
        | none=>none
      | _=>none
    | _,_,_=>none
def BX(fn:Func)(K:List PA->Prop)(σ:St):Prop :=
 match kX P σ fn.results.toList with|some l=>K l|none=>False
def zii(fn:Func)(K:List PA→Prop):Exit→St→Prop|.ret,σ=>BX P fn K σ|.normal,σ=>BX P fn K σ|_,_=>False
def jm:Nat→List PA→List (Nat×DV)|_,[]=>[]|i,x::r=>(i,.one (JU x))::jm (i+1) r
def vcFun(aQ:dG)(f:FuncId)(args:List PA)(K:List PA->Prop):Prop :=
 match P.funcs[f]? with
 | some fn=>match fn.body with
  | some c=>match Nat.beq aQ.nt fn.ntmps&&Nat.ble args.length aQ.nt with|true=>vc P Γ aQ c (zii P fn K) ⟨jm 0 args,[],[]⟩|false=>False
  | none=>False
 | none=>False
def Qy(fn:Func)(e s b:Nat)(K:List PA->Prop)(σ:St):Prop :=
 match fn.results.toList with
 | [.tmp t]=>match lk σ.env t with
  | some (.one (.c (.vec L)))=>match lk σ.ax L with
   | some (.vec e' s' b' n get)=>match Nat.beq e e'&&(Nat.beq s s'&&Nat.beq b b')with|true=>K [.one (.sl n s get)]|false=>False
   | _=>False
  | _=>False
 | [.tmp t,.tmp u]=>match lk σ.env t with
  | some (.one (.c (.vec L)))=>match lk σ.env u with
   | some (.one (.c (.p x)))=>match lk σ.ax L with
    | some (.vec e' s' b' n get)=>match Nat.beq e e'&&(Nat.beq s s'&&Nat.beq b b')with|true=>K [.one (.sl n s get),.one x]|false=>False
    | _=>False
   | _=>False
  | _=>False
 | _=>False
def zij(fn:Func)(e s b:Nat)(K:List PA→Prop):Exit→St→Prop|.ret,σ=>Qy fn e s b K σ|.normal,σ=>Qy fn e s b K σ|_,_=>False
def zcE(aQ:dG)(f:FuncId)(args:List PA)(e s b:Nat)(K:List PA->Prop):Prop :=
 match P.funcs[f]? with
 | some fn=>match fn.body with
  | some c=>match Nat.beq aQ.nt fn.ntmps&&Nat.ble args.length aQ.nt with|true=>vc P Γ aQ c (zij fn e s b K) ⟨jm 0 args,[],[]⟩|false=>False
  | none=>False
 | none=>False
/-! Iterators: functions that take yield. -/
abbrev YK:=Exit->List (List PA)->Bool->St->Prop
def rU:List DV→Option (List PA)
  | []=>some []
  | .one (.c (.p v))::r=>match rU r with|some l=>some (.one v::l)|none=>none
  | .one (.agg cs)::r=>match kC cs,rU r with|some l,some m=>some (.agg l::m)|_,_=>none
  | _::_=>none
def Qz(ob:Nat→Option AO):List Nat→List (Nat×AO)
  | []=>[]
  | L::r=>match ob L with|some (.fbox l)=>(L,.fbox l)::Qz ob r|_=>Qz ob r
abbrev WB:Nat:=4095
def Lu(σ:St):List (Nat×AO):=Gx (lk σ.ax) (σ.ax.map (·.1))++Qz (lk σ.ax) (σ.ax.map (·.1))
def hasAll(ks:List Nat)(l:List Nat):Bool:=l.all λL=>ks.contains L
def wV(ks:List Nat)(l:List (Nat×DV)):List Nat→List (Nat×DV)
  | []=>[]
  | t::r=>match lk l t with
    | some d=>match hasAll ks (bY d)with|true=>(t,d)::wV ks l r|false=>wV ks l r
    | none=>wV ks l r
def Ae(σ:St):St:=⟨wV (WB::(Lu σ).map (·.1)) σ.env (σ.env.map (·.1)),(WB,.gone)::Lu σ,[]⟩
def zoX(σ:St)(o:Oper):Option (Array Operand×Nat) :=
 match o.op,o.dst with
 | .call {callee:=.value f,args,argTypes:=_},some t=>match fU σ.env f with
  | .one (.c (.vec 4095))=>match lk σ.env 0 with|some (.one (.c (.vec 4095)))=>some (args,t)|_=>none
  | _=>none
 | _,_=>none
def wW(nt:Nat)(o:Oper)(next:List (List PA)->Bool->St->Prop)(ys:List (List PA))(q:Bool)(σ:St):Prop :=
 match zoX σ o with
 | some (args,t)=>match rU (args.toList.map (fU σ.env)),Nat.blt t nt,q with
  | some y,true,false=>∃rest,ys=y::rest/\next rest false ((Ae σ).setT t (.bool true))/\next rest true ((Ae σ).setT t (.bool false))
  | _,_,_=>False
 | none=>match dH nt o.dst with
  | true=>nY (act P Γ o (fU σ.env) (lk σ.ax)) (λ_ _=>[]) 0 o.dst (next ys q) σ
  | false=>False
def lU(nt:Nat)(ops:Array Oper):List Oper→(List (List PA)→Bool→St→Prop)→List (List PA)→Bool→St→Prop
  | [],K,ys,q,σ=>K ys q σ
  | o::r,K,ys,q,σ=>match o.guard with
    | none=>wW P Γ nt o (lU nt ops r K) ys q σ
    | some (j,want)=>match dH nt o.dst,(ops[j]?).bind (·.dst)with
      | true,some g=>match lk σ.env g with
        | some (.one (.c (.p (.bool b)))) => Lm b
            (match want with|true=>wW P Γ nt o (lU nt ops r K) ys q (σ.setT g (.bool true))|false=>lU nt ops r K ys q ((σ.setT g (.bool true)).skip o.dst))
            (match want with|true=>lU nt ops r K ys q ((σ.setT g (.bool false)).skip o.dst)|false=>wW P Γ nt o (lU nt ops r K) ys q (σ.setT g (.bool false)))
        | some (.one (.c .undef))=>lU nt ops r K ys q (σ.skip o.dst)
        | _=>False
      | _,_=>False
def zyC(next:List (List PA)→Bool→St→Prop)(K:YK):YK
  | .normal,ys,q,σ=>next ys q σ
  | e,ys,q,σ=>K e ys q σ
def zaz(id:Nat)(K:YK):YK
  | .exit i,ys,q,σ=>match Nat.beq i id with|true=>K .normal ys q σ|false=>K (.exit i) ys q σ
  | e,ys,q,σ=>K e ys q σ
def zyD(K:YK):YK|.goto _,_,_,_=>False|e,ys,q,σ=>K e ys q σ
def zik(aQ:dG)(id:Nat)(X:List (List PA)→Bool→St→Prop)(K:YK):YK
  | .normal,ys,q,σ=>match lk aQ.head id with
    | some k=>match canon P k σ with|some s=>X ys q s|none=>False
    | none=>False
  | e,ys,q,σ=>K e ys q σ
def QA(k:Keep)(step:YK→List (List PA)→Bool→St→Prop):Nat→YK→List (List PA)→Bool→St→Prop
  | 0,_,_,_,_=>False
  | n+1,K,ys,q,σ=>match canon P k σ with
    | some s=>step (λe qx q' σ'=>match e with | .normal=>QA k step n K qx q' σ'|e=>K e qx q' σ') ys q s
    | none=>False
def zyE(aQ:dG)(r:Nat)(go:List (List PA)->Bool->St->Prop)(ys:List (List PA))(q:Bool)(σ:St):Prop :=
 match lk aQ.cut r with
 | some k=>match canon P k σ with|some s=>go ys q s|none=>False
 | none=>go ys q σ
def SV(aQ:dG):Code→YK→List (List PA)→Bool→St→Prop
  | .skip,K,ys,q,σ=>K .normal ys q σ
  | .region id ops draw,K,ys,q,σ=>match(Jz ops.toList).contains 0,aQ.yl.contains id,draw with
    | true,_,_=>False
    | false,true,false=>lU P Γ aQ.nt ops ops.toList (λqx q' σ'=>match lk aQ.reg id with
      | some k=>match canon P k σ' with|some s=>K .normal qx q' s|none=>False
      | none=>K .normal qx q' {σ' with log:=[]}) ys q {σ with log:=[]}
    | false,true,true=>False
    | false,false,_=>Qx P Γ aQ id ops draw (K .normal ys q) σ
  | .seq a b,K,ys,q,σ=>SV aQ a (zyC (zyE P aQ (jQ b) (SV aQ b K)) K) ys q σ
  | .cond c a b,K,ys,q,σ=>match fU σ.env c with|.one (.c (.p (.bool t)))=>Lm t (SV aQ a K ys q (yf σ c true)) (SV aQ b K ys q (yf σ c false))|_=>False
  | .block id b,K,ys,q,σ=>SV aQ b (zaz id K) ys q σ
  | .loop b,K,ys,q,σ=>match lk aQ.head (jQ b)with
    | some k=>match canon P k σ with|some s=>∀X:List (List PA)->Bool->St->Prop,(∀ys q s,SV aQ b (zik P aQ (jQ b) X K) ys q s->X ys q s)->X ys q s|none=>False
    | none=>match lk aQ.unr (jQ b)with|some (n,k)=>QA P k (SV aQ b) n K ys q σ|none=>False
  | .exit id,K,ys,q,σ=>K (.exit id) ys q σ
  | .scope b,K,ys,q,σ=>SV aQ b (zyD K) ys q σ
  | .label _,K,ys,q,σ=>K .normal ys q σ
  | .ret,K,ys,q,σ=>K .ret ys q σ
  | _,_,_,_,_=>False
def zil(ys:List (List PA))(q:Bool):Prop:=match q with|true=>True|false=>ys=[]
def zGX:YK|.ret,ys,q,_=>zil ys q|.normal,ys,q,_=>zil ys q|_,_,_,_=>False
def SX(aQ:dG)(f:FuncId)(caps:List PA)(ys:List (List PA)):Prop :=
 match P.funcs[f]? with
 | some fn=>match fn.body with
  | some c=>match Nat.beq aQ.nt fn.ntmps&&Nat.ble (caps.length+1) aQ.nt&&fn.results.isEmpty with|true=>SV P Γ aQ c zGX ys false ⟨(0,.cl (.vec WB))::jm 1 caps,[(WB,.gone)],[]⟩|false=>False
  | none=>False
 | none=>False
end
end Go.Pm
namespace Go.Pm
open Go.RowKit (Below)
theorem lV{α:Type}(l:List α)(off:Nat)(l':List α):(spl l off l').length=l.length:=by
 induction l' generalizing l off with|nil=>rfl|cons x r ih=>simp[spl,ih]
inductive WC where
  | fz (o:Obj)
  | pin (o:Obj)
def tV(l:List Int):Value:=.agg (l.map λn=>Value.int .i64 n).toArray
def WC.ok:WC→Obj→Prop|.fz o,x=>x=o|.pin o,x=>x=o
abbrev Fz:=Nat->Option WC
def Hw(h:Fz)(w:World):Prop:=∀b x,h b=some x->∃o,w.heap[b]? = some o/\x.ok o
theorem Hw.fz{h:Fz}{w:World}(H:Hw h w){b:Nat}{o:Obj}(hb:h b=some (.fz o)):w.heap[b]? = some o:=by
 obtain⟨o',h1,h2⟩:=H b _ hb;simp only[WC.ok]at h2;subst h2;exact h1
theorem Hw.lt{h:Fz}{w:World}(H:Hw h w){b:Nat}{x:WC}(hb:h b=some x):b<w.heap.size:=by
 obtain⟨o',h1,_⟩:=H b _ hb;exact(Wh.1 h1).1
theorem Hw.same{h:Fz}{w w':World}(H:Hw h w)(hs:∀b x,h b=some x->w'.heap[b]? = w.heap[b]?):Hw h w':=λb x hb=>by
 obtain⟨o,h1,h2⟩:=H b x hb;exact⟨o,by rw[hs b x hb];exact h1,h2⟩
class aH where
  z:Nat
variable [aH]
abbrev zvK:Nat:=aH.z
abbrev dle(a b:Nat):Prop:=a*zvK<=b*zvK
theorem LC{a b:Nat}(h:a<=b):dle a b:=SI _ h
structure yg (h : Fz) (B : Nat) (w w' : World) : Prop where
  os:w'.os=w.os
  tape:w'.tape=w.tape
  output:w'.output=w.output
  size:w.heap.size<=w'.heap.size
  drawn:dle w.drawn w'.drawn
  block:∀k,k<B->w'.heap[k]? = w.heap[k]?
structure LD (B : Nat) (w w' : World) : Prop extends Below B w w' where
  drawn:dle w.drawn w'.drawn
structure GrB (w w' : World) (row : Option Nat) : Prop extends w.grownBy w' row where
  drawn:dle w.drawn w'.drawn
theorem LD.refl(B:Nat)(w:World):LD B w w:=⟨Below.refl B w,jP _⟩
theorem yg.of{h:Fz}{B:Nat}{w w':World}(b:LD B w w'):yg h B w w':=⟨b.os,b.tape,b.output,b.size,b.drawn,λk hk=>b.block k hk⟩
theorem yg.refl(h:Fz)(B:Nat)(w:World):yg h B w w:=.of (.refl B w)
theorem yg.trans{h:Fz}{B:Nat}{a b c:World}(x:yg h B a b)(y:yg h B b c):yg h B a c :=
 ⟨y.os.trans x.os,y.tape.trans x.tape,y.output.trans x.output,Gj x.size y.size,Gj x.drawn y.drawn,λi hi=>(y.block i hi).trans (x.block i hi)⟩
theorem yg.drew{h:Fz}{B:Nat}{a w:World}(x:yg h B a w):yg h B a w.drew:=⟨x.os,x.tape,x.output,x.size,Gj x.drawn (LC (Nat.le_succ _)),x.block⟩
def fH(kf:KF)(c:List Int):Value:=match kf with|.ints=>tV c|.one=>.int .i64 (c.headD 0)
def cellV:Option IntKind→Int→Value|some k,x=>.int k x|none,x=>.bool (x != 0)
def rV(o:Option (List Int)):Nat→List (Option IntKind)→List Value|_,[]=>[]|i,k::ks=>cellV k (AZ o i)::rV o (i+1) ks
def mD(yM:Bool)(ks:List (Option IntKind))(o:Option (List Int)):Value:=match yM with|true=>.agg (rV o 0 ks).toArray|false=>(rV o 0 ks).headD undef
def nZ(c:List Int):List (List Int×List Int)→Option (List Int)
  | []=>none
  | (k,v)::r=>if k=c then some v else nZ c r
structure MoE (q : MQ) (n : Nat) (F : List Int → Option (List Int)) (es : Array MapEntry) (clock : Nat) (en : List (List Int × List Int)) : Prop where
  one:q.1=.one->q.2.1=1
  vone:q.2.2.1=false->q.2.2.2.length=1
  ents:es.toList.map (λe=>(e.key,e.val))=en.map (λx=>(fH q.1 x.1,mD q.2.2.1 q.2.2.2 (some x.2)))
  len:∀x∈en,x.1.length=q.2.1/\x.2.length=q.2.2.2.length
  nodup:(en.map (·.1)).Nodup
  find:∀c,c.length=q.2.1->F c=nZ c en
  size:n=en.length
  born:∀e∈es.toList,e.born<clock
  bornN:(es.toList.map (·.born)).Nodup
def moE(q:MQ)(n:Nat)(F:List Int->Option (List Int))(es:Array MapEntry)(clock:Nat):Prop:=∃en,MoE q n F es clock en
inductive Rep(h:Fz):PV→Value→Prop
  | bool (b:Bool):Rep h (.bool b) (.bool b)
  | int (k:IntKind) (n:Int):Rep h (.int k n) (.int k n)
  | nilp:Rep h .nilp (.pointer none)
  | nilf:Rep h .nilf .nilFunc
  | nilm:Rep h .nilm (.map none)
  | nils:Rep h .nils (.slice none 0 0)
  | fp (cells:List PV) (off b o:Nat) (C:Array Value) (ty:TypeId) (fr:Nat×Nat) (vs:Nat→Value) (hb:h b=some (.fz (.cells C ty fr)))
      (hc:∀j x,cells[j]? = some x->C[o+j]? = some (vs j)) (hr:∀j x,cells[j]? = some x->Rep h x (vs j)) :
      Rep h (.fp cells off) (.pointer (some ⟨b,o+off,none⟩))
  | sl0 (size:Nat) (get:Nat->List PV) (hu:uC get):Rep h (.sl 0 size get) (.slice none 0 0)
  | sle (size:Nat) (get:Nat->List PV) (a:Addr) (cap:Nat) (hu:uC get):Rep h (.sl 0 size get) (.slice (some a) 0 cap)
  | sl (len size:Nat) (get:Nat→List PV) (hu:uC get) (b o cap:Nat) (C:Array Value) (ty:TypeId) (fr:Nat×Nat) (vs:Nat→Nat→Value) (hb:h b=some (.fz (.cells C ty fr)))
      (kK:len<=cap) (hlen:∀i,i<len->(get i).length=size)
      (hc:∀i j x,i<len->(get i)[j]? = some x->C[o+i*size+j]? = some (vs i j))
      (hr:∀i j x,i<len->(get i)[j]? = some x->Rep h x (vs i j)) :
      Rep h (.sl len size get) (.slice (some ⟨b,o,none⟩) len cap)
  | fn (f:FuncId) (first caps:List PV) (fv cv:List Value) (h1:first.length=fv.length) (h2:caps.length=cv.length)
      (hf:∀(j:Nat)(x:PV)(v:Value),first[j]? = some x->fv[j]? = some v->Rep h x v) (hc:∀(j:Nat)(x:PV)(v:Value),caps[j]? = some x->cv[j]? = some v->Rep h x v) :
      Rep h (.fn f first caps) (.func (.func f) fv.toArray cv.toArray)
  | fna (f:FuncId) (cells:List PV) (vs:List Value) (h1:cells.length=vs.length)
      (hc:∀(j:Nat)(x:PV)(v:Value),cells[j]? = some x->vs[j]? = some v->Rep h x v):Rep h (.fna f cells) (.func (.func f) #[.agg vs.toArray] #[])
def ku(h h':Fz):Prop:=∀b o,h b=some o->h' b=some o
theorem Rep.mono{h h':Fz}(hl:ku h h'){p:PV}{v:Value}(r:Rep h p v):Rep h' p v:=by
 induction r with
 | bool b=>exact .bool b
 | int k n=>exact .int k n
 | nilp=>exact .nilp
 | nilf=>exact .nilf
 | nilm=>exact .nilm
 | nils=>exact .nils
 | fp cells off b o C ty fr vs hb hc hr ih=>exact .fp cells off b o C ty fr vs (hl _ _ hb) hc ih
 | sl0 size get hu=>exact .sl0 size get hu
 | sle size get a cap hu=>exact .sle size get a cap hu
 | sl len size get hu b o cap C ty fr vs hb kK hlen hc hr ih=>exact .sl len size get hu b o cap C ty fr vs (hl _ _ hb) kK hlen hc ih
 | fn f first caps fv cv h1 h2 hf hc ih1 ih2=>exact .fn f first caps fv cv h1 h2 ih1 ih2
 | fna f cells vs h1 hc ih=>exact .fna f cells vs h1 ih
theorem Rep.mono'{h h':Fz}(hl:∀b o,h b=some o->(∃C ty fr,o=.fz (.cells C ty fr))->h' b=some o){p:PV}{v:Value}(r:Rep h p v):Rep h' p v:=by
 induction r with
 | bool b=>exact .bool b
 | int k n=>exact .int k n
 | nilp=>exact .nilp
 | nilf=>exact .nilf
 | nilm=>exact .nilm
 | nils=>exact .nils
 | fp cells off b o C ty fr vs hb hc hr ih=>exact .fp cells off b o C ty fr vs (hl _ _ hb ⟨_,_,_,rfl⟩) hc ih
 | sl0 size get hu=>exact .sl0 size get hu
 | sle size get a cap hu=>exact .sle size get a cap hu
 | sl len size get hu b o cap C ty fr vs hb kK hlen hc hr ih=>exact .sl len size get hu b o cap C ty fr vs (hl _ _ hb ⟨_,_,_,rfl⟩) kK hlen hc ih
 | fn f first caps fv cv h1 h2 hf hc ih1 ih2=>exact .fn f first caps fv cv h1 h2 ih1 ih2
 | fna f cells vs h1 hc ih=>exact .fna f cells vs h1 ih
theorem Rep.un{h:Fz}{p:PV}{v:Value}(r:Rep h p v):Sm p p:=by
 induction r with|bool b=>exact .bool _ _|int k n=>exact .int _ _ _|sl0 size get hu=>exact uC.sl hu _ _ _|sle size get a cap hu=>exact uC.sl hu _ _ _|sl len size get hu=>exact uC.sl hu _ _ _|fp cells off b o C ty fr vs hb hc hr ih=>exact .fp _ _ _ rfl λk x y hx hy=>by rw[hx]at hy;cases hy;exact ih k x hx|_=>exact .atom _ rfl
theorem yV{h:Fz}:∀{l:List PV}{vs:List Value},RL (Rep h) l vs→RS l l|[],[],_=>trivial|_::_,_::_,r=>⟨r.1.un,yV r.2⟩
theorem Rep.up{h:Fz}{p q:PV}(e:qy p q):∀{v:Value},Rep h p v->Rep h q v:=by
 induction e with
 | rfl p=>exact λr=>r
 | nil s g hu=>intro v r;cases r;exact .sl0 s g hu
 | sl n s g g' hu hl he ih =>
  intro v r;cases r with
  | sl0=>exact .sl0 _ _ hu
  | sle=>exact .sle _ _ _ _ hu
  | sl _ _ _ _ b o cap C ty fr vs hb kK hlen hc hr =>
   refine .sl n s g' hu b o cap C ty fr vs hb kK (λi hi=>(hl i hi).symm.trans (hlen i hi)) (λi j x hi hx=>?_) λi j x hi hx=>?_;obtain⟨y,hy⟩:=pz (hl i hi).symm hx;exact hc i j y hi hy;obtain⟨y,hy⟩:=pz (hl i hi).symm hx;exact ih i j y x hi hy hx (hr i j y hi hy)
 | fp l l' off hl he ih =>
  intro v r;cases r with
  | fp _ _ b o C ty fr vs hb hc hr =>
   refine .fp l' off b o C ty fr vs hb (λj x hx=>?_) λj x hx=>?_;obtain⟨y,hy⟩:=pz hl.symm hx;exact hc j y hy;obtain⟨y,hy⟩:=pz hl.symm hx;exact ih j y x hy hx (hr j y hy)
 | fn f a a' l l' ha _ hl _ ih0 ih =>
  intro v r;cases r with
  | fn _ _ _ fv cv h1 h2 hf hc =>
   refine .fn f a' l' fv cv (ha.symm.trans h1) (hl.symm.trans h2) (λj x v hx hv=>?_) λj x v hx hv=>?_;obtain⟨y,hy⟩:=pz ha.symm hx;exact ih0 j y x hy hx (hf j y v hy hv);obtain⟨y,hy⟩:=pz hl.symm hx;exact ih j y x hy hx (hc j y v hy hv)
theorem BZ{h:Fz}{l m:List PV}(e:RL qy l m){vs:List Value}(r:RL (Rep h) l vs):RL (Rep h) m vs:=by
 induction l generalizing m vs with
 | nil=>cases m with|nil=>exact r|cons=>exact e.elim
 | cons x l ih=>cases m with
  | nil=>exact e.elim
  | cons y m=>cases vs with|nil=>exact r.elim|cons v vs=>exact⟨r.1.up e.1,ih e.2 r.2⟩
theorem ze7{v:Value}{p:PV}(h:wS v=some p):Sm p p:=by
 unfold wS at h;split at h<;>cases h<;>first|exact .atom _ rfl|exact .bool _ _|exact .int _ _ _
theorem QB:∀{l:List Value}{z:List Cl}{m:List PV},jF l=some z→kC z=some m→RS m m
  | [],z,m,h,h'=>by cases h;cases h';trivial
  | v::r,z,m,h,h'=>by
    simp only[jF]at h;split at h;rename_i x l hx hl;cases h;simp only[kC]at h';split at h';rename_i k hk;cases h';exact⟨ze7 hx,QB hl hk⟩;cases h';cases h
theorem JX{P:Program}{t:TypeId}{z:List Cl}{m:List PV}(h:gX P t=some z)(h':kC z=some m):RS m m:=by
 unfold gX at h;split at h;split at h;split at h;rename_i hl;split at h;cases h;exact QB hl h';cases h;cases h;cases h;cases h
theorem QC{P:Program}{h:Fz}{t k:Nat}{l:List PV}{vs:List Value}(r:RL (Rep h) l vs):RL (Rep h) (zcB P t k l) vs:=by
 unfold zcB;split;rename_i hk;split;rename_i s _ _ hz;split;rename_i z' hz';obtain⟨v,hv,hr⟩:=r.get k _ hk;have hvn:v=.slice none 0 0:=by cases hr;rfl
 subst hvn;have:=r.set k (a:=.sl 0 s (λ_=>z')) (b:=Value.slice none 0 0) (Rep.sl0 _ _ (Ll (JX hz hz')));have e:vs.set k (.slice none 0 0)=vs:=by
  obtain⟨iF,hv⟩:=BP.1 hv;rw[<- hv,jqV]
 rwa[e]at this;exact r;exact r;exact r
theorem QD{P:Program}{h:Fz}:∀(fs:List Field){l:List PV}{vs:List Value},RL (Rep h) l vs→RL (Rep h) (zic P fs l) vs|[],_,_,r=>r|_::fs,_,_,r=>QD fs (QC r)
theorem vJ{P:Program}{h:Fz}{e:TypeId}{l:List PV}{vs:List Value}(r:RL (Rep h) l vs):RL (Rep h) (Ba P e l) vs:=by
 unfold Ba;split;exact QD _ r;exact QC r
theorem Rep.one{h:Fz}{p:PV}{v:Value}(r:Rep h p v):v.oneCell'=true:=by
 cases r<;>first|rfl|(rename_i r;cases r<;>rfl)
structure Gh where
  h:Fz
  bk:Nat->Nat
  sv:Nat->Value
  iv:Nat->Nat->Value
def JA(g:Gh):uw→Value→Prop|.v p,x=>Rep g.h p x|.b L,x=>x=.pointer (some ⟨g.bk L,0,none⟩)
def pU:Value→Nat|.map (some b)=>b|_=>0
def jk(g:Gh):Cl→Value→Prop|.p v,x=>Rep g.h v x|.ptr L off,x=>x=.pointer (some ⟨g.bk L,off,none⟩)|.vptr L s i k,x=>∃b,(g.sv L).ownBlock=some b/\x=.pointer (some ⟨b,i*s+k,none⟩)|.vec L,x=>x=g.sv L/\x.oneCell'=true|.mo L,x=>x=.map (some (pU (g.sv L)))|.clo f caps,x=>∃cv:List Value,x=.func (.func f) #[] cv.toArray/\RL (JA g) caps cv|.undef,x=>x=undef|.junk,_=>True|.dead _,_=>True
theorem rE{g g':Gh}(hl:∀p x,Rep g.h p x→Rep g'.h p x):∀{caps:List uw}{vs:List Value},(∀L∈lN caps,g'.bk L=g.bk L)→RL (JA g) caps vs→RL (JA g') caps vs|[],[],_,_=>trivial|[],_::_,_,h=>h.elim|_::_,[],_,h=>h.elim|.v p::_,_::_,hb,h=>⟨hl _ _ h.1,rE hl (λL hL=>hb L hL) h.2⟩|.b M::_,_::_,hb,h=>⟨by have:=h.1;simp only[JA]at this ⊢;rw[hb M (by simp[lN])];exact this,rE hl (λL hL=>hb L (by simp[lN,hL])) h.2⟩
theorem zcF{g:Gh}{c:Cl}{x:Value}(h:jk g c x)(ho:Dv c=true):x.oneCell'=true:=by
 cases c with
 | p v=>exact Rep.one h
 | ptr L off=>subst h;rfl
 | vptr L s i k=>obtain⟨b,_,rfl⟩:=h;rfl
 | vec L=>exact h.2
 | mo L=>subst h;rfl
 | clo f caps=>obtain⟨cv,rfl,_⟩:=h;rfl
 | undef=>cases ho
 | junk=>cases ho
 | dead L=>cases ho
def BB(g:Gh):D1→Value→Prop|.c x,v=>jk g x v|.agg cs,v=>∃vs:List Value,v=.agg vs.toArray/\RL (jk g) cs vs
def rW(g:Gh):DV→Value→Prop|.one d,v=>BB g d v|.tup ds,v=>∃vs:List Value,v=.tuple vs.toArray/\RL (BB g) ds vs
def DI(P:Program)(g:Gh)(w:World)(B L e s b n:Nat)(get:Nat->List PV):Prop :=
 (uC get/\0<s)/\(∃i z,P.info? e=some i/\i.size=s/\i.bytes=b/\i.zero=some z/\z.cells.size=s) /\
 ∃xs:List Value,w.ownsRow B e s (g.sv L) n xs/\(∀i,i<n->RL (Rep g.h) (get i) ((xs.drop (i*s)).take s))
def Unv(get:Nat->Nat->List PV):Prop:=∀i j k l,RS (get i j) (get k l)
def vvR(P:Program)(g:Gh)(w:World)(B L te bb e s b n:Nat)(ln:Nat->Nat)(get:Nat->Nat->List PV):Prop :=
 (Unv get/\0<s)/\(∃i z,P.info? te=some i/\i.size=1/\i.bytes=bb/\i.zero=some z/\z.cells.size=1) /\
 (∃i z,P.info? e=some i/\i.size=s/\i.bytes=b/\i.zero=some z/\z.cells.size=s) /\
 w.ownsRow B te 1 (g.sv L) n ((List.range n).map (g.iv L)) /\
 (∀i,i<n->(g.iv L i).oneCell'=true/\(ln i=0->g.iv L i=.slice none 0 0)/\∃xs:List Value,w.ownsRow B e s (g.iv L i) (ln i) xs/\∀j,j<ln i->RL (Rep g.h) (get i j) ((xs.drop (j*s)).take s)) /\
 ∀i k,i<n->(g.iv L i).ownBlock=some k->(g.sv L).ownBlock≠some k/\∀j,j<n->(g.iv L j).ownBlock=some k->i=j
def vtR(P:Program)(g:Gh)(w:World)(B L te bb e s b n:Nat)(ln:Nat->Nat)(get:Nat->Nat->List PV)(o:Nat):Prop :=
 (Unv get/\0<s)/\(∃i z,P.info? te=some i/\i.size=1/\i.bytes=bb/\i.zero=some z/\z.cells.size=1) /\
 (∃i z,P.info? e=some i/\i.size=s/\i.bytes=b/\i.zero=some z/\z.cells.size=s) /\
 w.ownsRow B te 1 (g.sv L) n ((List.range n).map (g.iv L))/\(g.iv L o).oneCell'=true/\(∀k,g.iv L o ≠ .map (some k)) /\
 (∀i,i<n->i≠o->(g.iv L i).oneCell'=true/\(ln i=0->g.iv L i=.slice none 0 0)/\∃xs:List Value,w.ownsRow B e s (g.iv L i) (ln i) xs/\∀j,j<ln i->RL (Rep g.h) (get i j) ((xs.drop (j*s)).take s)) /\
 ∀i k,i<n->i≠o->(g.iv L i).ownBlock=some k->(g.sv L).ownBlock≠some k/\∀j,j<n->j≠o->(g.iv L j).ownBlock=some k->i=j
def zoY(v:Value):Prop:=∀a n c,v=.slice (some a) n c->a.off=0
def moR(P:Program)(kt vt:Nat)(q:MQ)(n:Nat)(F:List Int->Option (List Int))(es:Array MapEntry)(clock:Nat):Prop :=
 KY P kt vt=some q/\moE q n F es clock
def Pz(P:Program)(g:Gh)(w:World)(B L:Nat):AO→Prop|.box ty cs=>∃C:Array Value,w.heap[g.bk L]? = some (.cells C ty (0,0))/\RL (jk g) cs C.toList|.fbox cs=>∃(C:Array Value)(ty:TypeId)(fr:Nat×Nat),g.h (g.bk L)=some (.fz (.cells C ty fr))/\RL (Rep g.h) cs C.toList|.vec e s b n get=>DI P g w B L e s b n get|.fvec s n get=>Rep g.h (.sl n s get) (g.sv L)/\zoY (g.sv L)|.vv te bb e s b n ln get=>vvR P g w B L te bb e s b n ln get|.vt te bb e s b n ln get o=>vtR P g w B L te bb e s b n ln get o|.mo kt vt q n F=>∃(es:Array MapEntry)(clock:Nat),w.heap[pU (g.sv L)]? = some (.map es clock)/\moR P kt vt q n F es clock|.gone=>True
def gY(g:Gh)(L:Nat)(o:AO)(b:Nat):Prop :=
 match o with|.box _ _=>g.bk L=b|.mo _ _ _ _ _=>pU (g.sv L)=b|.vec _ _ _ _ _=>(g.sv L).ownBlock=some b|.vv _ _ _ _ _ n _ _=>(g.sv L).ownBlock=some b\/∃i,i<n/\(g.iv L i).ownBlock=some b|.vt _ _ _ _ _ n _ _ o=>(g.sv L).ownBlock=some b\/∃i,i<n/\i≠o/\(g.iv L i).ownBlock=some b|_=>False
def IE(P:Program)(d:Deferred):Prop:=∃(fv:Fn)(cap:Array Value)(f:FuncId)(args:Array Value),d.target=.fn fv cap/\(∀w,(invoke d.target d.args).run P w=.ok (.enter f args) w) /\
 ∀(n:Nat)(w:World),CallsDIn {fn:=λ_=>True,depth:=none,alive:=false,round:=none} n P f args .returning w λe u w'=>(∃v,e=.returned v)/\u=.returning/\w'=w
def deD:Nat ⊕ Deferred→Deferred|.inl D=>{target:=.collected D,args:=#[]}|.inr d=>d
def lefts:List (Nat ⊕ Deferred)→List Nat|[]=>[]|.inl D::r=>D::lefts r|.inr _::r=>lefts r
theorem vK{D:Nat}:∀{es:List (Nat ⊕ Deferred)},Sum.inl D∈es→D∈lefts es
  | .inl E::r,h=>by
    rcases jV.1 h with e|h
    cases e;exact kH;exact jM _ (vK h)
  | .inr _::r,h=>by
    rcases jV.1 h with e|h
    cases e;exact vK (es:=r) h
theorem LG{D:Nat}:∀{es:List (Nat ⊕ Deferred)},D∈lefts es→Sum.inl D∈es
  | .inl E::r,h=>by
    rcases jV.1 h with rfl|h
    exact kH;exact jM _ (LG h)
  | .inr _::r,h=>jM _ (LG (es:=r) h)
def Marks(P:Program)(B:Nat)(h:Fz)(ds:List Deferred):Prop :=
 ∃es:List (Nat ⊕ Deferred),(lefts es).Nodup/\ds=es.map deD/\(∀D,Sum.inl D∈es->B<=D/\h D=some (.fz (.deferred (some []))))/\∀d,Sum.inr d∈es->IE P d
theorem Marks.mono{P:Program}{B:Nat}{h h':Fz}{ds:List Deferred}(m:Marks P B h ds)(hl:ku h h'):Marks P B h' ds:=by
 obtain⟨es,h1,h2,h3,h4⟩:=m;exact⟨es,h1,h2,λD hD=>⟨(h3 D hD).1,hl _ _ (h3 D hD).2⟩,h4⟩
theorem Marks.nil{P:Program}(B:Nat)(h:Fz):Marks P B h []:=⟨[],qjI,rfl,λ_ hD=>by simp at hD,λ_ hD=>by simp at hD⟩
structure bU (P : Program) (nt B : Nat) (w0 : World) (h0 : Fz) (g : Gh) (σ : St) (a : Act) (w : World) : Prop where
  dfr:Marks P B g.h a.defers
  size:nt<=a.tmps.size
  env:∀t d,lk σ.env t=some d->rW g d (a.tmps.getD t undef)
  obj:∀L o,lk σ.ax L=some o->Pz P g w B L o
  own:∀L o b,lk σ.ax L=some o->gY g L o b->B<=b/\g.h b=none
  sep:∀L o b L' o',lk σ.ax L=some o->lk σ.ax L'=some o'->gY g L o b->gY g L' o' b->L=L'
  hw:Hw g.h w
  le0:ku h0 g.h
  hn:∀b o,g.h b=some o->h0 b=some o\/B<=b
  below:yg h0 B w0 w
  bs:B<=w.heap.size
  clE:∀t d,lk σ.env t=some d->∀L∈bY d,∃o,lk σ.ax L=some o
  clO:∀L o,lk σ.ax L=some o->∀M∈dS o,∃o',lk σ.ax M=some o'
def oC(h:Fz):PA→Value→Prop|.one v,x=>Rep h v x|.agg cs,x=>∃vs:List Value,x=.agg vs.toArray/\RL (Rep h) cs vs
def qV(h:Fz):List PA→Value→Prop|[r],v=>oC h r v|rs,v=>∃vs:List Value,v=.tuple vs.toArray/\RL (oC h) rs vs
def dw (P : Program) (f : FuncId) : Prop := ∃ fn, P.funcs[f]? = some fn ∧ fn.body.isSome = true ∧ (fn.name == "runtime.NumGoroutine") = false
def Ok(P:Program)(f:FuncId)(C:List PA->ae (List PA)):Prop :=
 ∀(args rs:List PA),(C args).o=some rs->∀(w:World)(h:Fz)(vs:List Value),RL (oC h) args vs->Hw h w ->
  dw P f/\Calls P f vs.toArray w λ e w'=>∃ (h':Fz) (v:Value),e=.returned v/\qV h' rs v/\yg h w.heap.size w w' /\
   ku h h'/\Hw h' w'/\∀b o,h' b=some o->h b=some o\/w.heap.size<=b
def Be(h:Fz)(w:World)(base e s:Nat)(v:Value)(n:Nat)(get:Nat->List PV):Prop :=
 ∃xs:List Value,w.ownsRow base e s v n xs/\∀i,i<n->RL (Rep h) (get i) ((xs.drop (i*s)).take s)
structure zaA (h : Fz) (K : List Nat) (w w' : World) : Prop where
  os:w'.os=w.os
  tape:w'.tape=w.tape
  output:w'.output=w.output
  size:w.heap.size<=w'.heap.size
  drawn:dle w.drawn w'.drawn
  block:∀k,k<w.heap.size->k∉K->w'.heap[k]? = w.heap[k]?
def WE(v:Value)(xs:List Value):List PV→Value|[]=>v|_=>.tuple (v::xs).toArray
def gI(P:Program)(f:FuncId):Gq→Prop
  | .none=>True
  | .sort e s b=>∀(w:World)(h:Fz)(base:Nat)(v:Value)(n:Nat)(get:Nat->List PV)(gf:FuncId)(caps:List PV)(cv:List Value)(ag:Bool)(C:List PA->ae (List PA)),@Ok ⟨1⟩ P gf C->RL (Rep h) caps cv->jG P e=some ag ->
      (∃i,P.info? e=some i/\i.size=s)->0<s->Be h w base e s v n get->v.oneCell'=true->Hw h w->(∀k,v.ownBlock=some k->h k=none)->base<=w.heap.size ->
      zys n (λi j=>(Lc C caps ag get i j).isSome) (oJ C caps ag get) ->
      dw P f/\Calls P f #[v,.func (.func gf) #[] cv.toArray] w λr w'=>r=.returned (.tuple #[])/\Be h w' base e s v n (Ld n (oJ C caps ag get) get)/\GrB w w' v.ownBlock
  | .clone e s b=>∀(w:World)(h:Fz)(v:Value)(n:Nat)(get:Nat->List PV),Rep h (.sl n s get) v->Hw h w->n*b<=140737488355328->n<=9223372036854775807 ->
      dw P f/\Calls P f #[v] w λ r w'=>∃ (h':Fz) (v':Value),r=.returned v'/\v'.oneCell'=true/\Be h' w' w.heap.size e s v' n get/\(∀ k,v'.ownBlock=some k->h' k=none) /\
        yg h w.heap.size w w'/\ku h h'/\Hw h' w'/\∀b o,h' b=some o->h b=some o\/w.heap.size<=b
  | .mkv e s b F=>∀(w:World)(h:Fz)(az:List PA)(vs:List Value)(n:Nat)(get:Nat->List PV)(rs:List PV),(F az).o=some (n,get,rs)->RL (oC h) az vs->Hw h w ->
      dw P f/\Calls P f vs.toArray w λ r w'=>∃ (h':Fz) (v':Value) (xs:List Value),r=.returned (WE v' xs rs)/\RL (Rep h') rs xs/\v'.oneCell'=true/\uC get /\
        Be h' w' w.heap.size e s v' n get/\(∀k,v'.ownBlock=some k->h' k=none)/\yg h w.heap.size w w'/\ku h h'/\Hw h' w'/\∀b o,h' b=some o->h b=some o\/w.heap.size<=b
  | .grow e s b F=>∀(w:World)(h:Fz)(base:Nat)(az:List PA)(vs:List Value)(v:Value)(n:Nat)(get:Nat->List PV)(m:Nat)(get':Nat->List PV),(F az n get).o=some (m,get')->RL (oC h) az vs ->
      v.oneCell'=true->(uC get/\0<s)->(∃i z,P.info? e=some i/\i.size=s/\i.bytes=b/\i.zero=some z/\z.cells.size=s)->Be h w base e s v n get->(∀k,v.ownBlock=some k->base<=k/\h k=none)->Hw h w->base<=w.heap.size ->
      dw P f/\Calls P f (vs ++ [v]).toArray w λ r w'=>∃ (h':Fz) (v':Value),r=.returned v'/\v'.oneCell'=true/\uC get'/\Be h' w' base e s v' m get' /\
        (∀k,v'.ownBlock=some k->(k∈v.ownBlock.toList\/w.heap.size<=k)/\h' k=none)/\ku h h'/\Hw h' w'/\(∀b o,h' b=some o->h b=some o\/w.heap.size<=b\/b∈v.ownBlock.toList)/\zaA h v.ownBlock.toList w w'
def JSt(J:List (List PA)->Fz->World->Prop):Prop :=
 ∀ys h W h' W',J ys h W->ku h h'->Hw h' W'->(∀b o,h' b=some o->h b=some o\/W.heap.size<=b)->yg h W.heap.size W W'->J ys h' W'
def Bf(P:Program)(f:FuncId)(C:List PA->ae (List (List PA))):Prop :=
 ∀(caps:List PA)(ys:List (List PA)),(C caps).o=some ys->∀(l:Nat)(J Jx:List (List PA)->Fz->World->Prop)(Rp:Ending->World->Prop)(w:World)(h:Fz)(vs:List Value),JSt J->JSt Jx ->
  (∀y rest h W us,J (y::rest) h W->RL (oC h) y us->Hw h W->∀n,∃fn tmps assign body,(Instr.yield l us.toArray).run P W=.ok (.round l fn tmps assign body) W /\
   RoundIn Fence.wide n P l fn tmps assign body W λe W'=>(∃h',ku h h'/\Hw h' W'/\((e=.returned (.bool true)/\J rest h' W')\/(e=.returned (.bool false)/\Jx rest h' W')))\/((∃ch,e=.panicked ch)/\Rp e W')) ->
  J ys h w->RL (oC h) caps vs->Hw h w ->
  dw P f/\Calls P f (.func (.yield l) #[] #[]::vs).toArray w λe W'=>(∃v h',e=.returned v/\ku h h'/\Hw h' W'/\(J [] h' W'\/∃rest,Jx rest h' W'))\/((∃ch,e=.panicked ch)/\Rp e W')
class dD where
  f:FuncId
  np:Nat
  bs:List Nat
def yD(b:Nat):Value:=.pointer (some ⟨b,0,none⟩)
def zR2 [dD]:Value:=.func (.func (dD.f)) #[] ((dD.bs).map yD).toArray
def xcR [dD](P:Program)(h:Fz)(w:World)(B:Nat):XC→Value→Prop|.p v,x=>Rep h v x|.vec e s b n get,x=>x.oneCell'=true/\(uC get/\0<s)/\(∃i z,P.info? e=some i/\i.size=s/\i.bytes=b/\i.zero=some z/\z.cells.size=s)/\Be h w B e s x n get|.mo kt vt q n F,x=>∃(b:Nat)(es:Array MapEntry)(clock:Nat),x=.map (some b)/\w.heap[b]? = some (.map es clock)/\moR P kt vt q n F es clock|.slf f np n,x=>f=dD.f/\np=dD.np/\n=(dD.bs).length/\x=zR2
def xcK:XC→Value→List Nat|.p _,_=>[]|.vec _ _ _ _ _,x=>x.ownBlock.toList|.mo _ _ _ _ _,x=>[pU x]|.slf _ _ _,_=>[]
def vM:List XC→List Value→List Nat|c::cs,v::vs=>xcK c v++vM cs vs|_,_=>[]
def Af [dD](P:Program)(h:Fz)(w:World)(B:Nat):XA→Value→Prop|.d a,v=>oC h a v|.box ty cs,v=>∃k C,v=.pointer (some ⟨k,0,none⟩)/\w.heap[k]? = some (.cells C ty (0,0))/\RL (xcR P h w B) cs C.toList
def WF(w:World):XA→Value→List Nat
  | .box _ cs,.pointer (some a)=>a.block::match w.heap[a.block]? with|some (.cells C _ _)=>vM cs C.toList|_=>[]
  | _,_=>[]
def nO(w:World):List XA→List Value→List Nat|x::xs,v::vs=>WF w x v++nO w xs vs|_,_=>[]
def PS(h:Fz)(rs:List PA)(e:Ending):Prop:=match Gv rs with|none=>∃v,e=.returned v/\qV h rs v|some ch=>e=.panicked ch
def jc(P:Program)(f:FuncId)(C:MK):Prop :=
 ∀ [dD] (xs ys:List XA) (rs:List PA),(C xs).o=some (rs,ys)->∀(w:World)(h:Fz)(base:Nat)(vs:List Value),RL (Af P h w base) xs vs->(∀k b,(dD.bs)[k]? = some b->vs[dD.np+k]? = some (yD b))->(nO w xs vs).Nodup ->
  (∀b∈nO w xs vs,base<=b/\h b=none)->Hw h w->base<=w.heap.size ->
  dw P f/\Calls P f vs.toArray w λ e w'=>∃ (h':Fz),PS h' rs e/\RL (Af P h' w' base) ys vs/\(nO w' ys vs).Nodup /\
   (∀b∈nO w' ys vs,(b∈nO w xs vs\/w.heap.size<=b)/\h' b=none)/\ku h h'/\Hw h' w'/\(∀b o,h' b=some o->h b=some o\/w.heap.size<=b\/b∈nO w xs vs)/\zaA h (nO w xs vs) w w'
structure jw (P : Program) (Γ : bI) : Prop where
  mt:∀f C,Γ.mt f=some C->jc P f C
  fn:∀f,Ok P f (Γ.fn f)
  own:∀f,gI P f (Γ.own f)
  it:∀f,Bf P f (Γ.it f)
  cmp:∀f,@Ok ⟨1⟩ P f (Γ.cfn f)
theorem aV{α:Type}{k n:Nat}{a:α}{r:List (Nat×α)}:lk ((k,a)::r) n=if k=n then some a else lk r n:=by
 simp only[lk];cases h:Nat.beq k n with|true=>rw[eU (lu h)]|false=>rw[eY (qdA h)]
theorem gZ{α:Type}{n:Nat}{l r:List (Nat×α)}:lk (l++r) n=match lk l n with|some a=>some a|none=>lk r n:=by
 induction l with
 | nil=>rfl
 | cons x l ih =>
  obtain⟨k,a⟩:=x;rw[qdW,aV,aV];split;rfl;exact ih
end Go.Pm
namespace Go.Pm
variable [aH]
open Go.RowKit (Below)
section
variable{P:Program}{w:World}
theorem addr_add(b o n:Nat):(⟨b,o,none⟩:Addr).add n=⟨b,o+n,none⟩:=by
 unfold Addr.add;split<;>simp_all
theorem run_underlying{t:TypeId}{d:TypeDesc}(h:P.underlying t=some d):(underlying t).run P w=.ok d w:=by
 simp[underlying,h]
theorem run_sizeOf{t:TypeId}{n:Nat}(h:qK P t=some n):(sizeOf t).run P w=.ok n w:=by
 unfold qK at h;cases hi:P.info? t with|none=>simp[hi]at h|some i=>simp[hi]at h;simp[sizeOf,typeInfo,hi,h]
theorem oM{t:TypeId}{g:Bool}(h:jG P t=some g):(isAgg t).run P w=.ok g w:=by
 unfold jG at h;cases hi:P.underlying t with|none=>simp[hi]at h|some d=>simp[hi]at h;simp only[isAgg,Sem.run_bind,run_underlying hi,Result.andThen_ok];cases d<;>simp_all
theorem lG{t:TypeId}{i:TypeInfo}{z:Value}(h:P.info? t=some i)(hz:i.zero=some z):(zeroValue t).run P w=.ok z w:=by
 simp[zeroValue,typeInfo,h,hz]
theorem cell_of{b o:Nat}{C:Array Value}{ty:TypeId}{fr:Nat×Nat}(h:w.heap[b]? = some (.cells C ty fr)):w.cell? ⟨b,o,none⟩=C[o]?:=by
 simp[World.cell?,h]
theorem JB{t:TypeId}{n b o:Nat}{C:Array Value}{ty:TypeId}{fr:Nat×Nat}(hg:jG P t=some true)(hs:qK P t=some n)
    (h:w.heap[b]? = some (.cells C ty fr)) (vs:List Value) (hl:vs.length=n) (hv:∀(j:Nat)(v:Value),vs[j]? = some v->C[o+j]? = some v) :
    (loadVar t ⟨b,o,none⟩).run P w=.ok (.agg vs.toArray) w:=by
  have hc:=run_loadCells_list (P:=P) (w:=w) ⟨b,o,none⟩ vs (λj v hj=>by rw[addr_add,cell_of h];exact hv j v hj);simp only[loadVar,Sem.run_bind,oM hg,Result.andThen_ok,Qs,run_sizeOf hs,<- hl,hc,Sem.run_pure]
theorem yh{t:TypeId}{b o:Nat}{C:Array Value}{ty:TypeId}{fr:Nat×Nat}(hg:jG P t=some false)
    (h:w.heap[b]? = some (.cells C ty fr)) (v:Value) (hv:C[o]? = some v) :
    (loadVar t ⟨b,o,none⟩).run P w=.ok v w:=by
  simp only[loadVar,Sem.run_bind,oM hg,Result.andThen_ok,qdz,qje,run_load,cell_of h,hv]
theorem WG{t:TypeId}{b o f off:Nat}(h:La P t f=some off) :
  (Instr.fieldAt t (.pointer (some ⟨b,o,none⟩)) f).run P w=.ok (.pointer (some ⟨b,o+off,none⟩)) w:=by
 unfold La at h;split at h;rename_i fs hu;split at h;rename_i fd hf;split at h;rename_i k hs;simp at h;subst h;simp only[Instr.fieldAt,Sem.run_bind,run_underlying hu,Result.andThen_ok,hf,Instr.sureAddr,Sem.run_pure,fieldPlace,run_sizeOf hs];simp[addr_add];cases h;cases h;cases h
theorem run_indexAt_slice{t e:TypeId}{n b o len cap:Nat}{k:IntKind}{i:Int}(hu:P.underlying t=some (.slice e))(hs:qK P e=some n)(h0:0≤i)(h1:i<(len:Int)) :
  (Instr.indexAt t (.slice (some ⟨b,o,none⟩) len cap) (.int k i)).run P w=.ok (.pointer (some ⟨b,o+i.toNat*n,none⟩)) w:=by
 simp only[Instr.indexAt,asIntOf,Sem.run_bind,Sem.run_pure,Result.andThen_ok,run_underlying hu,h0,h1,and_self,Qs,run_sizeOf hs,addr_add]
theorem yX{b:Nat}{ty:TypeId}:∀(vs:List Value)(o:Nat)(C:Array Value)(w:World),w.heap[b]? = some (.cells C ty (0,0))->o+vs.length<=C.size->(∀v∈vs,v.oneCell'=true) ->
  ∀(base i:Nat),o=base+i->∃w',(storeCells ⟨b,base,none⟩ vs i).run P w=.ok () w'/\w'.heap[b]? = some (.cells (spl C.toList o vs).toArray ty (0,0))/\w'.heap.size=w.heap.size /\
   (∀k,k≠b->w'.heap[k]? = w.heap[k]?)/\w'.os=w.os/\w'.tape=w.tape/\w'.output=w.output/\w'.drawn=w.drawn
 | [],o,C,w,h,_,_,base,i,_=>⟨w,by simp[storeCells],by simpa [spl]using h,rfl,λ_ _=>rfl,rfl,rfl,rfl,rfl⟩
 | v::r,o,C,w,h,hl,h1,base,i,ho=>by
  subst ho;have iF:base+i<C.size:=by simp at hl;omega
  have ou:w.cell? ⟨b,base+i,none⟩=some C[base+i]:=by rw[cell_of h];simp[iF]
  have hfr:w.frozen? ⟨b,base+i,none⟩=false:=frozen_of_row w b (base+i) C ty h;let w1:=w.setCell ⟨b,base+i,none⟩ v;have h2:w1.heap[b]? = some (.cells (C.set! (base+i) v) ty (0,0)):=by
   simp[w1,World.setCell,qjY,h]
  have jL:w1.heap.size=w.heap.size:=by simp[w1,World.setCell]
  have ry:∀k,k≠b->w1.heap[k]? = w.heap[k]?:=λk hk=>heap_setCell_other w _ k v hk;obtain⟨w',hr,hh,pM,kV,h5,h6,h7,h8⟩:=yX r (base+i+1) (C.set! (base+i) v) w1 h2 (by simp at hl ⊢;omega) (λu hu=>h1 u (jM _ hu)) base (i+1) omY;refine⟨w',?_,?_,pM.trans jL,λk hk=>(kV k hk).trans (ry k hk),h5,h6,h7,h8⟩;rw [storeCells];simp only[Sem.run_bind,addr_add,run_store P w _ v _ (h1 v kH),ou,hfr,qdz,qje,Result.andThen_ok];exact hr;rw [hh];simp[spl]
end
end Go.Pm
namespace Go.Pm
variable [aH]
open Go.RowKit (Below)
theorem DJ{α:Type}:∀(l' l:List α)(off j:Nat),off+l'.length≤l.length→(spl l off l')[j]? = if off≤j∧j<off+l'.length then l'[j-off]? else l[j]?
  | [],l,off,j,_=>by simp only[spl,Wj];rw[eY omY]
  | x::r,l,off,j,h=>by
    have h':off+1+r.length<=(l.set off x).length:=by simp at h ⊢;omega
    rw[spl,DJ r (l.set off x) (off+1) j h'];simp only[qp]at h ⊢;by_cases hj:j=off;subst hj;rw[eY omY,eU omY];have:j<l.length:=by omega
    simp[this];by_cases hr:off+1≤j∧j<off+1+r.length;rw [eU hr,eU omY];have e:j-off=(j-(off+1))+1:=by omega
    rw[e,dqN];rw[eY hr,eY omY,qjy omY]
theorem zcG{g:Nat->List PV}(hg:uC g){i k:Nat}{l:List PV}(hk:k+l.length<=(g 0).length)(hs:smL (((g 0).drop k).take l.length) l=true)(hl:RS l l):uC (Dw i k g l):=by
 have hp:RS (((g 0).drop k).take l.length) l:=Lj hs (((hg 0 0).drop k).take _) hl;have key:∀j j',RS (spl (g j) k l) (g j'):=λj j'=>by
  have e0:=(hg 0 j).length;refine RL.of_get (by rw[lV];exact(hg j j').length) λp a b ha hb=>?_;rw[DJ _ _ _ _ omY]at ha;split at ha;rename_i hr;obtain⟨c,hc,r⟩:=RL.get' hp (p-k) a ha;rw[JR,eU omY,qdl,show k+(p-k)=p by omega]at hc;obtain⟨d,hd,r2⟩:=RL.get (hg 0 j') p c hc;rw[hb]at hd;cases hd;exact r.symm.trans r2;obtain⟨d,hd,r2⟩:=RL.get (hg j j') p a ha;rw[hb]at hd;cases hd;exact r2
 intro j j';unfold Dw;split<;>split;exact(key j j').trans (key j' j').symm;exact key _ _;exact(key _ _).symm;exact hg _ _
theorem Gz(off:Nat):∀(l:List Value)(k:Nat)(C:Array Value),
  (l.zipIdx k).foldl (λ(cs:Array Value)(x:Value×Nat)=>cs.setIfInBounds (off+x.2) x.1) C=(spl C.toList (off+k) l).toArray
 | [],k,C=>by simp[spl]
 | x::r,k,C=>by
  rw[List.zipIdx_cons,Wl,Gz off r (k+1) _,spl];simp[qjA]
section
variable{P:Program}{w:World}
theorem vN{g:Gh}{d:D1}{v:Value}(h:BB g d v)(ho:d.cells.all Dv=true):RL (jk g) d.cells v.cells.toList:=by
 cases d with
 | c x =>
  have h1:=zcF h (by simpa [D1.cells]using ho);have:v.cells = #[v]:=by cases v<;>simp_all [Value.oneCell',Value.cells]
  rw[this];exact⟨h,trivial⟩
 | agg cs =>
  obtain⟨vs,rfl,hr⟩:=h;simpa [D1.cells,Value.cells]using hr
theorem WH{fs:Array Field}(h:∀f∈fs,(qK P f.type).isSome=true) :
  (fs.mapM λf=>do pure (f.offset,<- sizeOf f.type):Sem (Array (Nat×Nat))).run P w=.ok (fs.map λf=>(f.offset,(qK P f.type).getD 0)) w:=by
 have key:∀l:List Field,(∀f∈l,(qK P f.type).isSome=true) ->
   (l.mapM λf=>do pure (f.offset,<- sizeOf f.type):Sem (List (Nat×Nat))).run P w=.ok (l.map λf=>(f.offset,(qK P f.type).getD 0)) w:=by
  intro l
  induction l with
  | nil=>intro _;rfl
  | cons f l ih =>
   intro hl;obtain⟨n,hn⟩:=jqL.1 (hl f kH);rw[qjJ];simp only[Sem.run_bind,run_sizeOf hn,Result.andThen_ok,Sem.run_pure,ih (λg hg=>hl g (jM _ hg)),lM,hn,qdO]
 rw[qjK,Sem.run_map,key fs.toList (λf hf=>h f (by simpa using hf))];cases fs;simp
theorem yY{g:Gh}{ρ:Operand→Value}{ev:Operand→DV}(hev:∀o,rW g (ev o) (ρ o)){t:TypeId}(place:Nat→Option (Nat×Nat))
    (hp:∀(i off n:Nat),(match P.underlying t with
      | some (.struct fs)=>match fs[i]? with
        | some fd=>match qK P fd.type with|some m=>off=fd.offset/\n=m|none=>False
        | none=>False
      | some (.array _ e)=>match qK P e with|some m=>off=i*m/\n=m|none=>False
      | _=>False)->place i=some (off,n)) :
    ∀(parts:List (Nat×Operand))(z l:List Cl)(C:Array Value),iO P t ev z parts=some l->RL (jk g) z C.toList ->
      ∃D:Array Value,Instr.fill place C (parts.map λx=>(x.1,ρ x.2))=some D/\RL (jk g) l D.toList
  | [],z,l,C,h,hz=>by
    simp[iO]at h;subst h;exact⟨C,rfl,hz⟩
  | (i,o)::r,z,l,C,h,hz=>by
    have hd:=hev o;simp only[iO]at h;cases he:ev o with
    | tup ds=>simp[he]at h
    | one d =>
      simp only[he]at h;rw[he]at hd
      have step:∀(off n:Nat),place i=some (off,n)->n=d.cells.length->off+n<=z.length->d.cells.all Dv=true->iO P t ev (spl z off d.cells) r=some l ->
          ∃D:Array Value,Instr.fill place C (((i,o)::r).map λx=>(x.1,ρ x.2))=some D/\RL (jk g) l D.toList:=by
        intro off n VG hn hle gp hb;have hc:=vN hd gp;have hlen:=hc.length;have hzl:=hz.length;have hr2:RL (jk g) (spl z off d.cells) (spl C.toList off (ρ o).cells.toList):=hz.spl hc off;obtain⟨D,hD,hR⟩:=yY hev place hp r _ l (spl C.toList off (ρ o).cells.toList).toArray hb (by simpa using hr2);refine⟨D,?_,hR⟩;simp only[lM,Instr.fill,VG];have h1:¬((ρ o).cells.size≠n):=by simp only[Decidable.not_not,ne_eq];rw[hn,hlen];simp
        have h2:¬(off+(ρ o).cells.size>C.size):=by
          have:(ρ o).cells.size=d.cells.length:=by rw[hlen];simp
          have:C.size=z.length:=by rw[hzl];simp
          omega
        have h3:((decide ((ρ o).cells.size≠n)||decide (off+(ρ o).cells.size>C.size))=true)=False:=by simp[h1,h2]
        rw[eY (by rw[h3];exact id)];rw[<- hD];refine jZ (λz=>Instr.fill place z _) ?_;have:=Gz off (ρ o).cells.toList 0 C;rw[qja]at this;rw[<- this];cases(ρ o).cells;simp
      cases hu:P.underlying t with
      | none=>simp[hu]at h
      | some dd =>
        cases dd with
        | struct fs =>
          simp only[hu]at h;cases hf:fs[i]? with
          | none=>simp[hf]at h
          | some fd =>
            simp only[hf]at h;cases hs:qK P fd.type with
            | none=>simp[hs]at h
            | some n =>
              simp only[hs]at h;split at h;rename_i dm;simp only[fQ,VT]at dm;exact step fd.offset n (hp i _ _ (by simp[hu,hf,hs])) (lu dm.1.1) dm.1.2 dm.2 h;cases h
        | array m e =>
          simp only[hu]at h;cases hs:qK P e with
          | none=>simp[hs]at h
          | some n =>
            simp only[hs]at h;split at h;rename_i dm;simp only[fQ,VT]at dm;exact step (i*n) n (hp i _ _ (by simp[hu,hs])) (lu dm.1.1) dm.1.2 dm.2 h;cases h
        | _=>simp[hu]at h
theorem LH{h:Fz}{v:Value}{p:PV}(hv:wS v=some p):Rep h p v:=by
 unfold wS at hv;split at hv<;>first|(cases hv;done)|(simp at hv;subst hv;constructor)
theorem kR{g:Gh}:∀(l:List Value)(cs:List Cl),jF l=some cs→RL (jk g) cs l
  | [],cs,h=>by simp[jF]at h;subst h;trivial
  | v::r,cs,h=>by
    simp only[jF]at h;split at h;rename_i x l hx hl;simp at h;subst h;exact⟨LH hx,kR r l hl⟩;cases h
theorem lW{t:TypeId}{z:List Cl}(h:gX P t=some z):∃i v,P.info? t=some i/\i.zero=some v/\jF v.cells.toList=some z/\z.length=i.size:=by
 unfold gX at h;split at h;rename_i i hi;split at h;rename_i v hz;split at h;rename_i l hl;split at h;rename_i hs;simp at h;subst h;exact⟨i,v,hi,hz,hl,hs⟩;cases h;cases h;cases h;cases h
theorem ze9{t:TypeId}{z:List Cl}(h:gX P t=some z):∃i v,P.info? t=some i/\i.zero=some v/\v.cells.size=i.size:=by
 obtain⟨i,v,hi,hz,hl,hs⟩:=lW h;have:=(kR (g:=⟨λ_=>none,λ_=>0,λ_=>undef,λ_ _=>undef⟩) _ _ hl).length;exact⟨i,v,hi,hz,by rw[<- hs,this];simp⟩
theorem run_build{g:Gh}{ρ:Operand→Value}{ev:Operand→DV}(hev:∀o,rW g (ev o) (ρ o)){t:TypeId}{parts:Array (Nat×Operand)}{z l:List Cl}
    (hf:yQ P t=true) (hz:gX P t=some z) (hb:iO P t ev z parts.toList=some l) :
    ∃v,(Instr.build t (parts.map λx=>(x.1,ρ x.2))).run P w=.ok v w/\BB g (.agg l) v:=by
  obtain⟨i,v,hi,Iw,hl,_⟩:=lW hz;have hzr:=kR (g:=g) _ _ hl;unfold yQ at hf;cases hu:P.underlying t with
  | none=>simp[hu]at hf
  | some d =>
    cases d with
    | struct fs =>
      simp only[hu]at hf;have BN:∀f∈fs,(qK P f.type).isSome=true:=λf hf'=>yL.1 hf f (by simpa using hf');obtain⟨D,hD,hR⟩:=yY (P:=P) hev (t:=t) ((fs.map λf=>(f.offset,(qK P f.type).getD 0))[·]?) (by
        intro i off n hm;simp only[hu]at hm;cases hfi:fs[i]? with
        | none=>simp[hfi]at hm
        | some fd =>
          cases hs:qK P fd.type with|none=>simp[hfi,hs]at hm|some m=>simp[hfi,hs]at hm;simp[hfi,hs,hm.1,hm.2]) parts.toList z l v.cells hb hzr
      refine⟨.agg D,?_,⟨D.toList,by simp,hR⟩⟩;simp only[Instr.build,Sem.run_bind,lG hi Iw,Result.andThen_ok,run_underlying hu,WH BN];simp only[qju];rw[hD];rfl
    | array m e =>
      simp only[hu]at hf;obtain⟨n,hn⟩:=jqL.1 hf;obtain⟨D,hD,hR⟩:=yY (P:=P) hev (t:=t) (λi=>some (i*n,n)) (by
        intro i off k hm;simp only[hu,hn]at hm;simp[hm.1,hm.2]) parts.toList z l v.cells hb hzr
      refine⟨.agg D,?_,⟨D.toList,by simp,hR⟩⟩;simp only[Instr.build,Sem.run_bind,lG hi Iw,Result.andThen_ok,run_underlying hu,run_sizeOf hn];simp only[qju];rw[hD];rfl
    | _=>simp[hu]at hf
end
end Go.Pm
namespace Go.Pm
variable [aH]
open Go.RowKit (Below)
def jd(g g':Gh)(L:Nat):Prop:=g'.bk L=g.bk L/\g'.sv L=g.sv L/\g'.iv L=g.iv L
theorem jd.refl(g:Gh)(L:Nat):jd g g L:=⟨rfl,rfl,rfl⟩
def QE(g g':Gh)(l:List Nat):Prop:=∀L∈l,jd g g' L
theorem WI{g g':Gh}{c:Cl}{x:Value}(hl:QE g g' (bg c))(hle:ku g.h g'.h)(h:jk g c x):jk g' c x:=by
 cases c with
 | p v=>exact Rep.mono hle h
 | ptr L off=>have:=(hl L (by simp[bg])).1;simp only[jk]at h ⊢;rw[this];exact h
 | vptr L s i k=>have:=(hl L (by simp[bg])).2.1;simp only[jk]at h ⊢;rw[this];exact h
 | vec L=>have:=(hl L (by simp[bg])).2.1;simp only[jk]at h ⊢;rw[this];exact h
 | mo L=>have:=(hl L (by simp[bg])).2.1;simp only[jk]at h ⊢;rw[this];exact h
 | clo f caps=>obtain⟨cv,e,hr⟩:=h;exact⟨cv,e,rE (λ_ _=>Rep.mono hle) (λL hL=>(hl L hL).1) hr⟩
 | undef=>exact h
 | junk=>trivial
 | dead L=>trivial
theorem tX{g g':Gh}:∀{cs:List Cl}{vs:List Value},QE g g' (cs.flatMap bg)→ku g.h g'.h→RL (jk g) cs vs→RL (jk g') cs vs|[],[],_,_,_=>trivial|[],_::_,_,_,h=>h.elim|_::_,[],_,_,h=>h.elim|c::cs,v::vs,hl,hle,h=>⟨WI (λL hL=>hl L (by simp[hL])) hle h.1,tX (λL hL=>hl L (by simp only[oG,dR];exact .inr hL)) hle h.2⟩
theorem WJ{g g':Gh}{d:D1}{x:Value}(hl:QE g g' (dC d))(hle:ku g.h g'.h)(h:BB g d x):BB g' d x:=by
 cases d with
 | c y=>exact WI hl hle h
 | agg cs=>obtain⟨vs,rfl,hr⟩:=h;exact⟨vs,rfl,tX hl hle hr⟩
theorem IG{g g':Gh}:∀{cs:List D1}{vs:List Value},QE g g' (cs.flatMap dC)→ku g.h g'.h→RL (BB g) cs vs→RL (BB g') cs vs|[],[],_,_,_=>trivial|[],_::_,_,_,h=>h.elim|_::_,[],_,_,h=>h.elim|c::cs,v::vs,hl,hle,h=>⟨WJ (λL hL=>hl L (by simp[hL])) hle h.1,IG (λL hL=>hl L (by simp only[oG,dR];exact .inr hL)) hle h.2⟩
theorem WL{g g':Gh}{d:DV}{x:Value}(hl:QE g g' (bY d))(hle:ku g.h g'.h)(h:rW g d x):rW g' d x:=by
 cases d with
 | one y=>exact WJ hl hle h
 | tup ds=>obtain⟨vs,rfl,hr⟩:=h;exact⟨vs,rfl,IG hl hle hr⟩
theorem jo{w w':World}{B e s n:Nat}{v:Value}{xs:List Value}(h:w.ownsRow B e s v n xs)(hw:∀b,v.ownBlock=some b→w'.heap[b]? = w.heap[b]?) :
  w'.ownsRow B e s v n xs:=by
 refine⟨h.1,?_⟩;rcases h.2 with hn|⟨g,cap,cur,rfl,hb,hg,rest⟩
 exact .inl hn;exact .inr ⟨g,cap,cur,rfl,hb,by rw[hw g rfl];exact hg,rest⟩
theorem QF{P:Program}{g g':Gh}{w w':World}{B L e s b n:Nat}{get:Nat→List PV}(h:DI P g w B L e s b n get)(hs:g'.sv L=g.sv L)(hle:ku g.h g'.h)
    (hw:∀b,(g.sv L).ownBlock=some b->w'.heap[b]? = w.heap[b]?):DI P g' w' B L e s b n get:=by
  obtain⟨h1,h2,xs,hx,hr⟩:=h;refine⟨h1,h2,xs,?_,λi hi=>(hr i hi).mono λ_ _=>Rep.mono hle⟩;rw[hs];exact jo hx hw
theorem WM{P:Program}{g g':Gh}{w w':World}{B L te bb e s b n:Nat}{ln:Nat→Nat}{get:Nat→Nat→List PV}(h:vvR P g w B L te bb e s b n ln get)(hl:jd g g' L)(hle:ku g.h g'.h)
    (hw:∀k,gY g L (.vv te bb e s b n ln get) k->w'.heap[k]? = w.heap[k]?):vvR P g' w' B L te bb e s b n ln get:=by
  obtain⟨h1,h2,h3,h4,h5,h6⟩:=h;refine⟨h1,h2,h3,?_,λi hi=>?_,?_⟩;rw[hl.2.1,hl.2.2];exact jo h4 λk hk=>hw k (.inl hk);obtain⟨h7,h70,xs,hx,hr⟩:=h5 i hi;rw[hl.2.2];exact⟨h7,h70,xs,jo hx λk hk=>hw k (.inr ⟨i,hi,hk⟩),λj hj=>(hr j hj).mono λ_ _=>Rep.mono hle⟩;rw[hl.2.1,hl.2.2];exact h6
theorem WN{P:Program}{g g':Gh}{w w':World}{B L te bb e s b n o:Nat}{ln:Nat→Nat}{get:Nat→Nat→List PV}(h:vtR P g w B L te bb e s b n ln get o)(hl:jd g g' L)(hle:ku g.h g'.h)
    (hw:∀k,gY g L (.vt te bb e s b n ln get o) k->w'.heap[k]? = w.heap[k]?):vtR P g' w' B L te bb e s b n ln get o:=by
  obtain⟨h1,h2,h3,h4,h41,h42,h5,h6⟩:=h;refine⟨h1,h2,h3,?_,by rw[hl.2.2];exact h41,by rw[hl.2.2];exact h42,λi hi ho=>?_,?_⟩;rw[hl.2.1,hl.2.2];exact jo h4 λk hk=>hw k (.inl hk);obtain⟨h7,h70,xs,hx,hr⟩:=h5 i hi ho;rw[hl.2.2];exact⟨h7,h70,xs,jo hx λk hk=>hw k (.inr ⟨i,hi,ho,hk⟩),λj hj=>(hr j hj).mono λ_ _=>Rep.mono hle⟩;rw[hl.2.1,hl.2.2];exact h6
theorem jX{P:Program}{g g':Gh}{w w':World}{B L:Nat}{o:AO}(h:Pz P g w B L o)(hl:jd g g' L)(hm:QE g g' (dS o))(hle:ku g.h g'.h)
    (hw:∀b,gY g L o b->w'.heap[b]? = w.heap[b]?):Pz P g' w' B L o:=by
  cases o with
  | box ty cs=>obtain⟨C,hC,hr⟩:=h;refine⟨C,?_,tX hm hle hr⟩;rw[hl.1,hw _ rfl];exact hC
  | fbox cs=>obtain⟨C,ty,fr,hC,hr⟩:=h;refine⟨C,ty,fr,?_,hr.mono λ_ _=>Rep.mono hle⟩;rw[hl.1];exact hle _ _ hC
  | vec e s b n get=>exact QF h hl.2.1 hle hw
  | fvec s n get=>simp only[Pz]at h ⊢;rw[hl.2.1];exact⟨Rep.mono hle h.1,h.2⟩
  | vv te bb e s b n ln get=>exact WM h hl hle hw
  | vt te bb e s b n ln get o=>exact WN h hl hle hw
  | mo kt vt q n F=>obtain⟨es,clock,hC,hr⟩:=h;refine⟨es,clock,?_,hr⟩;rw[hl.2.1,hw _ rfl];exact hC
  | gone=>trivial
theorem gV{g g':Gh}{L:Nat}{o:AO}(hl:jd g g' L):gY g' L o=gY g L o:=by
 funext b;cases o<;>simp[gY,hl.1,hl.2.1,hl.2.2]
theorem iP{P:Program}{g:Gh}{w:World}{B L b:Nat}{o:AO}(h:Pz P g w B L o)(hb:gY g L o b):b<w.heap.size:=by
 cases o with
 | box ty cs=>simp[gY]at hb;subst hb;obtain⟨C,hC,_⟩:=h;exact(Wh.1 hC).1
 | fbox cs=>simp[gY]at hb
 | vec e s b' n get =>
  obtain⟨_,_,xs,hx,_⟩:=h;exact(hx.lt b hb).2
 | fvec s n get=>simp[gY]at hb
 | vv te bb e s b' n ln get =>
  obtain⟨_,_,_,h4,h5,_⟩:=h;rcases hb with hb|⟨i,hi,hb⟩
  exact(h4.lt b hb).2;obtain⟨_,_,xs,hx,_⟩:=h5 i hi;exact(hx.lt b hb).2
 | vt te bb e s b' n ln get o =>
  obtain⟨_,_,_,h4,_,_,h5,_⟩:=h;rcases hb with hb|⟨i,hi,ho,hb⟩
  exact(h4.lt b hb).2;obtain⟨_,_,xs,hx,_⟩:=h5 i hi ho;exact(hx.lt b hb).2
 | mo kt vt q n F=>simp[gY]at hb;subst hb;obtain⟨es,clock,hC,_⟩:=h;exact(Wh.1 hC).1
 | gone=>exact hb.elim
section
variable{P:Program}{nt B:Nat}{w0:World}{h0:Fz}{g:Gh}{σ:St}{a:Act}{w:World}
theorem bU.log(S:bU P nt B w0 h0 g σ a w)(l:List (Nat×Nat×Nat)):bU P nt B w0 h0 g {σ with log:=l} a w :=
 ⟨S.dfr,S.size,S.env,S.obj,S.own,S.sep,S.hw,S.le0,S.hn,S.below,S.bs,S.clE,S.clO⟩
theorem zim(a:Act)(t:Nat)(v:Value)(u:Nat)(ht:t<a.tmps.size):(a.put (some t) v).tmps.getD u undef=if t=u then v else a.tmps.getD u undef:=by
 simp only[Act.put,yB,qd9];by_cases h:t=u;subst h;simp[ht];simp[h]
def zaB(dst:Option Nat)(d:DV)(e:List (Nat×DV)):List (Nat×DV) :=
 match dst with|some t=>(t,d)::e|none=>e
theorem fZ(σ:St)(i:Nat)(dst:Option Nat)(fp:List (Nat×Bool))(d:DV)(u:List (Nat×AO)):σ.upd i dst fp d u []=⟨zaB dst d σ.env,u++σ.ax,σ.log⟩:=by
 cases dst<;>rfl
theorem bU.put(S:bU P nt B w0 h0 g σ a w){dst:Option Nat}{d:DV}{v:Value}(hd:dH nt dst=true)(hv:rW g d v)(hl:∀L∈bY d,∃o,lk σ.ax L=some o)
    (l:List (Nat×Nat×Nat)):bU P nt B w0 h0 g ⟨zaB dst d σ.env,σ.ax,l⟩ (a.put dst v) w:=by
  cases dst with
  | none=>exact S.log l
  | some t =>
    have ht:t<nt:=by simpa [dH,qjl]using hd
    have hts:t<a.tmps.size:=qdw ht S.size;refine⟨S.dfr,by simpa [Act.put]using S.size,?_,S.obj,S.own,S.sep,S.hw,S.le0,S.hn,S.below,S.bs,?_,S.clO⟩;intro u e hu;rw[zim a t v u hts];simp only[zaB,aV]at hu;split at hu;rename_i h;simp at hu;subst hu;rw[eU h];exact hv;rename_i h;rw[eY h];exact S.env u e hu;intro u e hu;simp only[zaB,aV]at hu;split at hu;simp at hu;subst hu;exact hl;exact S.clE u e hu
theorem bU.change(S:bU P nt B w0 h0 g σ a w){g':Gh}{w':World}{BC:List (Nat×AO)}
    (Bo:∀L o,lk σ.ax L=some o->jd g g' L) (hle:ku g.h g'.h) (KJ:Hw g'.h w')
    (hn':∀b o,g'.h b=some o->g.h b=some o\/B<=b) (hb:yg h0 B w w')
    (zR3:∀L o,lk BC L=some o->Pz P g' w' B L o) (jh:∀L o b,lk BC L=some o->gY g' L o b->B<=b/\g'.h b=none)
    (JP:∀L o b L' o',lk BC L=some o->lk BC L'=some o'->gY g' L o b->gY g' L' o' b->L=L')
    (yJ:∀L o,lk σ.ax L=some o->∃o',lk BC L=some o') (zR4:∀L o,lk BC L=some o->∀M∈dS o,∃o',lk BC M=some o') :
    bU P nt B w0 h0 g' {σ with ax:=BC} a w':=by
  refine⟨S.dfr.mono hle,S.size,?_,zR3,jh,JP,KJ,λb o h=>hle _ _ (S.le0 b o h),?_,S.below.trans hb,Gj S.bs hb.size,?_,zR4⟩;intro t d ht;refine WL (λL hL=>?_) hle (S.env t d ht);obtain⟨o,ho⟩:=S.clE t d ht L hL;exact Bo L o ho;intro b o h;rcases hn' b o h with h|h
  exact S.hn b o h;exact .inr h;intro t d ht L hL;obtain⟨o,ho⟩:=S.clE t d ht L hL;exact yJ L o ho
theorem bU.world(S:bU P nt B w0 h0 g σ a w){h':Fz}{w':World}(hle:ku g.h h')(KJ:Hw h' w')
    (hn':∀b o,h' b=some o->g.h b=some o\/w.heap.size<=b) (hb:yg g.h w.heap.size w w'):bU P nt B w0 h0 ⟨h',g.bk,g.sv,g.iv⟩ σ a w':=by
  have iF:∀L o b,lk σ.ax L=some o->gY g L o b->b<w.heap.size:=λL o b ho bZ=>iP (S.obj L o ho) bZ
  have key := S.change (g' := ⟨h', g.bk, g.sv, g.iv⟩) (w' := w') (BC := σ.ax) (fun _ _ _ => ⟨rfl, rfl, rfl⟩) hle KJ
    (λb o h=>(hn' b o h).imp id λh=>Gj S.bs h) ⟨hb.os,hb.tape,hb.output,hb.size,hb.drawn,λk hk=>hb.block k (qdw hk S.bs)⟩
    (λL o ho=>jX (S.obj L o ho) ⟨rfl,rfl,rfl⟩ (λ_ _=>⟨rfl,rfl,rfl⟩) hle λb bZ=>hb.block b (iF L o b ho bZ))
    (λL o b ho bZ=>by
      have iE:gY g L o b:=Eq.mp (jqe (gV (g:=g) (g':=⟨h',g.bk,g.sv,g.iv⟩) ⟨rfl,rfl,rfl⟩) _) bZ;obtain⟨h1,h2⟩:=S.own L o b ho iE;refine⟨h1,?_⟩;cases hh:h' b with
      | none=>exact hh
      | some x =>
        rcases hn' b x hh with h3|h3
        rw[h2]at h3;cases h3;exact absurd (iF L o b ho iE) omY)
    (fun L o b L' o' ho kV bZ iE => S.sep L o b L' o' ho kV
      (Eq.mp (jqe (gV (g:=g) (g':=⟨h',g.bk,g.sv,g.iv⟩) ⟨rfl,rfl,rfl⟩) _) bZ) (Eq.mp (jqe (gV (g:=g) (g':=⟨h',g.bk,g.sv,g.iv⟩) ⟨rfl,rfl,rfl⟩) _) iE))
    (λL o h=>⟨o,h⟩) S.clO
  exact key
theorem vO{h:Fz}(hw:Hw h w){b:Nat}{o:WC}(hb:h b=some o):b<w.heap.size:=hw.lt hb
def Gh.setBk(g:Gh)(t b:Nat):Gh:=⟨g.h,λL=>if L=t then b else g.bk L,g.sv,g.iv⟩
def Gh.setSv(g:Gh)(t:Nat)(v:Value):Gh:=⟨g.h,g.bk,λL=>if L=t then v else g.sv L,g.iv⟩
def Gh.setVv(g:Gh)(t:Nat)(v:Value)(iv:Nat->Value):Gh:=⟨g.h,g.bk,λL=>if L=t then v else g.sv L,λL=>if L=t then iv else g.iv L⟩
theorem bU.newBox(S:bU P nt B w0 h0 g σ a w){t ty:Nat}{cs:List Cl}{C:Array Value}(ht:lk σ.ax t=none)(hC:RL (jk g) cs C.toList)
    (Bv:∀M∈cs.flatMap bg,∃o,lk σ.ax M=some o) :
    bU P nt B w0 h0 (g.setBk t w.heap.size) {σ with ax:=(t,.box ty cs)::σ.ax} a (w.alloc (.cells C ty)):=by
  have jb:∀L o,lk σ.ax L=some o->L≠t:=λL o h e=>by subst e;rw[ht]at h;cases h
  have fG:∀L o,lk σ.ax L=some o->jd g (g.setBk t w.heap.size) L:=λL o h=>⟨by simp[Gh.setBk,jb L o h],rfl,rfl⟩;have hold:∀b,b<w.heap.size->(w.alloc (.cells C ty)).heap[b]? = w.heap[b]?:=λb hb=>heap_alloc_old w _ b hb;have kJ:∀L o,lk ((t,AO.box ty cs)::σ.ax) L=some o->(L=t/\o=.box ty cs)\/(L≠t/\lk σ.ax L=some o):=by
    intro L o h;rw[aV]at h;split at h;rename_i e;simp at h;exact .inl ⟨e.symm,h.symm⟩;rename_i e;exact .inr ⟨λe'=>e e'.symm,h⟩
  have iH:∀L o b,lk σ.ax L=some o->gY (g.setBk t w.heap.size) L o b->gY g L o b:=λL o b ho bZ=>Eq.mp (jqe (gV (fG L o ho)) _) bZ;refine S.change (g':=g.setBk t w.heap.size) fG (λ_ _ h=>h) ?_ (λb o h=>.inl h) (yg.of ⟨(Below.refl B w).alloc S.bs _,jP _⟩) ?_ ?_ ?_ ?_ ?_;exact S.hw.same λb o h=>hold b (vO S.hw h);intro L o ho;rcases kJ L o ho with⟨rfl,rfl,rfl⟩|⟨_,ho⟩
  refine⟨C,by show(w.alloc _).heap[(if _ then w.heap.size else _)]? = _;rw [eU rfl];exact heap_alloc_new w _,tX (g:=g) (g':=g.setBk _ w.heap.size) (fun M hM => ?_) (fun _ _ h=>h) hC⟩;obtain⟨o,ho⟩:=Bv M hM;exact fG M o ho;refine jX (S.obj L o ho) (fG L o ho) (fun M hM => ?_) (fun _ _ h=>h) (fun b bZ=>hold b (iP (S.obj L o ho) bZ));obtain⟨o',kV⟩:=S.clO L o ho M hM;exact fG M o' kV;intro L o b ho bZ;rcases kJ L o ho with⟨rfl,rfl,rfl⟩|⟨_,ho⟩
  · simp [gY,Gh.setBk]at bZ;subst bZ;refine⟨S.bs,?_⟩;cases hh:g.h w.heap.size with|none=>exact hh|some x=>exact absurd (vO S.hw hh) omY
  exact S.own L o b ho (iH L o b ho bZ);intro L o b L' o' ho kV bZ iE;rcases kJ L o ho with⟨rfl,rfl,rfl⟩|⟨hn,o9⟩<;>rcases kJ L' o' kV with⟨rfl,rfl,rfl⟩|⟨hn',nS⟩
  rfl;simp [gY,Gh.setBk]at bZ;subst bZ;exact absurd (iP (S.obj L' o' nS) (iH _ _ _ nS iE)) omY;simp [gY,Gh.setBk]at iE;subst iE;exact absurd (iP (S.obj L o o9) (iH _ _ _ o9 bZ)) omY;exact S.sep L o b L' o' o9 nS (iH _ _ _ o9 bZ) (iH _ _ _ nS iE);intro L o ho;refine⟨o,?_⟩;rw[aV,eY (λe=>jb L o ho e.symm)];exact ho;intro L o ho M hM;have fin:∀M o,lk σ.ax M=some o->∃o',lk ((t,AO.box ty cs)::σ.ax) M=some o':=λM o h=>⟨o,by rw[aV,eY (λe=>jb M o h e.symm)];exact h⟩;rcases kJ L o ho with⟨rfl,rfl,rfl⟩|⟨_,ho⟩
  obtain⟨o,ho⟩:=Bv M hM;exact fin M o ho;obtain⟨o',kV⟩:=S.clO L o ho M hM;exact fin M o' kV
theorem bU.newVec(S:bU P nt B w0 h0 g σ a w){t e s b n:Nat}{get:Nat→List PV}{v:Value}{w':World}(ht:lk σ.ax t=none)
    (hb:LD B w w') (hold:∀b,b<w.heap.size->w'.heap[b]? = w.heap[b]?) (hv:∀b,v.ownBlock=some b->w.heap.size<=b)
    (hr:DI P (g.setSv t v) w' B t e s b n get) :
    bU P nt B w0 h0 (g.setSv t v) {σ with ax:=(t,.vec e s b n get)::σ.ax} a w':=by
  have jb:∀L o,lk σ.ax L=some o->L≠t:=λL o h e=>by subst e;rw[ht]at h;cases h
  have fG:∀L o,lk σ.ax L=some o->jd g (g.setSv t v) L:=λL o h=>⟨rfl,by simp[Gh.setSv,jb L o h],rfl⟩;have kJ:∀L o,lk ((t,AO.vec e s b n get)::σ.ax) L=some o->(L=t/\o=.vec e s b n get)\/(L≠t/\lk σ.ax L=some o):=by
    intro L o h;rw[aV]at h;split at h;rename_i e;simp at h;exact .inl ⟨e.symm,h.symm⟩;rename_i e;exact .inr ⟨λe'=>e e'.symm,h⟩
  have iH:∀L o b,lk σ.ax L=some o->gY (g.setSv t v) L o b->gY g L o b:=λL o b ho bZ=>Eq.mp (jqe (gV (fG L o ho)) _) bZ;have VH:(g.setSv t v).sv t=v:=by simp[Gh.setSv]
  refine S.change (g':=g.setSv t v) fG (λ_ _ h=>h) ?_ (λb o h=>.inl h) (.of hb) ?_ ?_ ?_ ?_ ?_;exact S.hw.same λb o h=>hold b (vO S.hw h);intro L o ho;rcases kJ L o ho with⟨rfl,rfl,rfl⟩|⟨_,ho⟩
  exact hr;refine jX (S.obj L o ho) (fG L o ho) (fun M hM => ?_) (fun _ _ h=>h) (fun b bZ=>hold b (iP (S.obj L o ho) bZ));obtain⟨o',kV⟩:=S.clO L o ho M hM;exact fG M o' kV;intro L o b' ho bZ;rcases kJ L o ho with⟨rfl,rfl,rfl⟩|⟨_,ho⟩
  · simp only [gY,VH]at bZ;have h1:=hv b' bZ;refine⟨Gj S.bs h1,?_⟩;cases hh:g.h b' with|none=>exact hh|some x=>exact absurd (vO S.hw hh) omY
  exact S.own L o b' ho (iH L o b' ho bZ);intro L o b' L' o' ho kV bZ iE;rcases kJ L o ho with⟨rfl,rfl,rfl⟩|⟨hn,o9⟩<;>rcases kJ L' o' kV with⟨rfl,rfl,rfl⟩|⟨hn',nS⟩
  rfl;simp only [gY,VH]at bZ;have:=hv b' bZ;exact absurd (iP (S.obj L' o' nS) (iH _ _ _ nS iE)) omY;simp only [gY,VH]at iE;have:=hv b' iE;exact absurd (iP (S.obj L o o9) (iH _ _ _ o9 bZ)) omY;exact S.sep L o b' L' o' o9 nS (iH _ _ _ o9 bZ) (iH _ _ _ nS iE);intro L o ho;refine⟨o,?_⟩;rw[aV,eY (λe=>jb L o ho e.symm)];exact ho;intro L o ho M hM;rcases kJ L o ho with⟨rfl,rfl,rfl⟩|⟨_,ho⟩
  simp[dS]at hM;obtain⟨o',kV⟩:=S.clO L o ho M hM;exact⟨o',by rw[aV,eY (λe=>jb M o' kV e.symm)];exact kV⟩
theorem bU.write2(S:bU P nt B w0 h0 g σ a w){L:Nat}{o o':AO}{w':World}(hL:lk σ.ax L=some o)(ut:∀b,gY g L o' b→gY g L o b)
    (hb:LD B w w') (ry:∀b,b<w.heap.size->¬gY g L o b->w'.heap[b]? = w.heap[b]?) (hr:Pz P g w' B L o') (Bv:∀M∈dS o',∃o,lk σ.ax M=some o) :
    bU P nt B w0 h0 g {σ with ax:=(L,o')::σ.ax} a w':=by
  have kJ:∀M x,lk ((L,o')::σ.ax) M=some x->(M=L/\x=o')\/(M≠L/\lk σ.ax M=some x):=by
    intro M x h;rw[aV]at h;split at h;rename_i e;simp at h;exact .inl ⟨e.symm,h.symm⟩;rename_i e;exact .inr ⟨λe'=>e e'.symm,h⟩
  have yJ:∀M x,lk σ.ax M=some x->∃x',lk ((L,o')::σ.ax) M=some x':=by
    intro M x h;rw[aV];split;exact⟨o',rfl⟩;exact⟨x,h⟩
  refine S.change (g':=g) (λ_ _ _=>⟨rfl,rfl,rfl⟩) (λ_ _ h=>h) ?_ (λb o h=>.inl h) (.of hb) ?_ ?_ ?_ yJ ?_;exact S.hw.same λb x h=>ry b (vO S.hw h) (λe=>by have:=(S.own L o b hL e).2;rw[this]at h;cases h);intro M x hx;rcases kJ M x hx with⟨rfl,rfl,rfl⟩|⟨jb,hx⟩
  exact hr;exact jX (S.obj M x hx) ⟨rfl,rfl,rfl⟩ (λ_ _=>⟨rfl,rfl,rfl⟩) (λ_ _ h=>h) λb bZ=>ry b (iP (S.obj M x hx) bZ) λe=>jb (S.sep M x b L o hx hL bZ e);intro M x b hx bZ;rcases kJ M x hx with⟨rfl,rfl,rfl⟩|⟨_,hx⟩
  exact S.own M o b hL (ut b bZ);exact S.own M x b hx bZ;intro M x b M' x' hx yP bZ iE;rcases kJ M x hx with⟨rfl,rfl,rfl⟩|⟨_,Qj⟩<;>rcases kJ M' x' yP with⟨rfl,rfl,rfl⟩|⟨_,zaC⟩
  rfl;exact S.sep M o b M' x' hL zaC (ut b bZ) iE;exact S.sep M x b M' o Qj hL bZ (ut b iE);exact S.sep M x b M' x' Qj zaC bZ iE;intro M x hx N hN;rcases kJ M x hx with⟨rfl,rfl,rfl⟩|⟨_,hx⟩
  obtain⟨y,hy⟩:=Bv N hN;exact yJ N y hy;obtain⟨y,hy⟩:=S.clO M x hx N hN;exact yJ N y hy
theorem bU.write(S:bU P nt B w0 h0 g σ a w){L:Nat}{o o':AO}{w':World}(hL:lk σ.ax L=some o)(ut:∀b,gY g L o' b→gY g L o b)
    (hb:LD B w w') (ry:∀b,¬gY g L o b->w'.heap[b]? = w.heap[b]?) (hr:Pz P g w' B L o') (Bv:∀M∈dS o',∃o,lk σ.ax M=some o) :
    bU P nt B w0 h0 g {σ with ax:=(L,o')::σ.ax} a w':=S.write2 hL ut hb (λb _=>ry b) hr Bv
theorem LJ{L:Nat}{v:Value}:∀M,M≠L->jd g (g.setSv L v) M:=λM h=>⟨rfl,by simp[Gh.setSv,h],rfl⟩
theorem zaD{L:Nat}{v:Value}{iv:Nat->Value}:∀M,M≠L->jd g (g.setVv L v iv) M:=λM h=>⟨rfl,by simp[Gh.setVv,h],by simp[Gh.setVv,h]⟩
theorem bU.adopt(S:bU P nt B w0 h0 g σ a w){t e s b n:Nat}{get:Nat→List PV}{v:Value}(ht:lk σ.ax t=none)
    (hv:∀k,v.ownBlock=some k->B<=k/\g.h k=none/\∀L o,lk σ.ax L=some o->¬gY g L o k) (hr:DI P (g.setSv t v) w B t e s b n get) :
    bU P nt B w0 h0 (g.setSv t v) {σ with ax:=(t,.vec e s b n get)::σ.ax} a w:=by
  have jb:∀L o,lk σ.ax L=some o->L≠t:=λL o h e=>by subst e;rw[ht]at h;cases h
  have fG:∀L o,lk σ.ax L=some o->jd g (g.setSv t v) L:=λL o h=>LJ L (jb L o h);have kJ:∀L o,lk ((t,AO.vec e s b n get)::σ.ax) L=some o->(L=t/\o=.vec e s b n get)\/(L≠t/\lk σ.ax L=some o):=by
    intro L o h;rw[aV]at h;split at h;rename_i e;simp at h;exact .inl ⟨e.symm,h.symm⟩;rename_i e;exact .inr ⟨λe'=>e e'.symm,h⟩
  have VH:(g.setSv t v).sv t=v:=by simp[Gh.setSv]
  have iH:∀L o k,lk σ.ax L=some o->gY (g.setSv t v) L o k->gY g L o k:=λL o k ho h=>by rw[gV (fG L o ho)]at h;exact h
  refine S.change (g':=g.setSv t v) fG (λ_ _ h=>h) S.hw (λb o h=>.inl h) (.refl _ B w) ?_ ?_ ?_ ?_ ?_;intro L o ho;rcases kJ L o ho with⟨rfl,rfl⟩|⟨_,ho⟩
  exact hr;exact jX (S.obj L o ho) (fG L o ho) (λM hM=>by obtain⟨o',kV⟩:=S.clO L o ho M hM;exact fG M o' kV) (λ_ _ h=>h) λ_ _=>rfl;intro L o k ho hk;rcases kJ L o ho with⟨rfl,rfl⟩|⟨_,ho⟩
  simp only[gY,VH]at hk;exact⟨(hv k hk).1,(hv k hk).2.1⟩;exact S.own L o k ho (iH L o k ho hk);intro L o k L' o' ho kV hk jO;rcases kJ L o ho with⟨rfl,rfl⟩|⟨_,o9⟩<;>rcases kJ L' o' kV with⟨rfl,rfl⟩|⟨_,nS⟩
  rfl;simp only[gY,VH]at hk;exact((hv k hk).2.2 L' o' nS (iH _ _ _ nS jO)).elim;simp only[gY,VH]at jO;exact((hv k jO).2.2 L o o9 (iH _ _ _ o9 hk)).elim;exact S.sep L o k L' o' o9 nS (iH _ _ _ o9 hk) (iH _ _ _ nS jO);intro L o ho;refine⟨o,?_⟩;rw[aV,eY (λe=>jb L o ho e.symm)];exact ho;intro L o ho M hM;rcases kJ L o ho with⟨rfl,rfl⟩|⟨_,ho⟩
  simp[dS]at hM;obtain⟨o',kV⟩:=S.clO L o ho M hM;exact⟨o',by rw[aV,eY (λe=>jb M o' kV e.symm)];exact kV⟩
end
end Go.Pm
namespace Go.Pm
variable [aH]
open Go.RowKit (Below)
abbrev mQ:=List (Nat×AO)
abbrev QG(s:Nat)(ln:Nat->Nat)(get:Nat->Nat->List PV):Nat->List PV:=λi=>[.sl (ln i) s (get i)]
def zcH(ob:Nat->Option AO)(u:mQ)(L:Nat)(o':AO):Prop :=
 (∃e s b n get,ob L=some (.vec e s b n get)/\o'=.fvec s n get) \/
 (∃ty cells l us,ob L=some (.box ty cells)/\o'=.fbox l/\nX ob cells=some (l,us)/\∀x∈us,x∈u) \/
 (∃te bb e s b n ln get,ob L=some (.vv te bb e s b n ln get)/\o'=.fvec 1 n (QG s ln get))
theorem zcH.mono{ob:Nat->Option AO}{u u':mQ}{L:Nat}{o':AO}(h:zcH ob u L o')(hu:∀x∈u,x∈u'):zcH ob u' L o':=by
 rcases h with h|⟨ty,cells,l,us,h1,h2,h3,h4⟩|h
 exact .inl h;exact .inr (.inl ⟨ty,cells,l,us,h1,h2,h3,λx hx=>hu x (h4 x hx)⟩);exact .inr (.inr h)
def fF(ob:Nat->Option AO)(u:mQ):Prop:=∀x∈u,zcH ob u x.1 x.2
theorem fF.append{ob:Nat->Option AO}{u u':mQ}(h:fF ob u)(h':fF ob u'):fF ob (u++u'):=by
 intro x hx;rcases dR.1 hx with hx|hx
 exact(h x hx).mono λy hy=>dR.2 (.inl hy);exact(h' x hx).mono λy hy=>dR.2 (.inr hy)
theorem fF.nil(ob:Nat->Option AO):fF ob []:=λx hx=>by simp at hx
section
variable{ob:Nat->Option AO}
theorem SY{c:Cl}{v:PV}{u:mQ}(h:AX ob c=some (v,u)):fF ob u:=by
 unfold AX at h;split at h;simp only[bM,gq]at h;rw[<- h.2];exact fF.nil ob;split at h;rename_i e s b n get hL;simp at h;rw[<- h.2];intro x hx;simp at hx;subst hx;exact .inl ⟨_,_,_,_,_,hL,rfl⟩;simp only[bM,gq]at h;rw[<- h.2];exact fF.nil ob;rename_i te bb e s b n ln get hL;simp only[bM,gq]at h;rw[<- h.2];intro x hx;simp only[mf]at hx;subst hx;exact .inr (.inr ⟨_,_,_,_,_,_,_,_,hL,rfl⟩);cases h;cases h
theorem LK:∀{cs:List Cl}{l:List PV}{u:mQ},jH ob cs=some (l,u)→fF ob u
  | [],l,u,h=>by simp[jH]at h;rw[h.2];exact fF.nil ob
  | c::cs,l,u,h=>by
    simp only[jH]at h;split at h;rename_i v u1 l2 u2 h1 h2;simp at h;rw[<- h.2];exact(SY h1).append (LK h2);cases h
theorem zyG{c:Cl}{x:PV×mQ}(h:AX ob c=some x):PO ob c=some x:=by
 cases c<;>first|exact h|cases h
theorem Tc:∀{cs:List Cl}{x:List PV×mQ},jH ob cs=some x→nX ob cs=some x
  | [],x,h=>h
  | c::cs,x,h=>by
    simp only[jH]at h;split at h;rename_i v u1 l2 u2 h1 h2;simp only[nX,zyG h1,Tc h2];exact h;cases h
theorem zo0{c:Cl}{v:PV}{u:mQ}(h:PO ob c=some (v,u)):fF ob u:=by
 unfold PO at h;split at h;split at h;rename_i L off ty cells hL;split at h;rename_i l us hl;simp at h;rw[<- h.2];intro x hx;rcases dR.1 hx with hx|hx
 exact(LK hl x hx).mono λy hy=>dR.2 (.inl hy);simp at hx;subst hx;exact .inr (.inl ⟨_,_,_,_,hL,rfl,Tc hl,λy hy=>dR.2 (.inl hy)⟩);cases h;simp only[bM,gq]at h;rw[<- h.2];exact fF.nil ob;cases h;exact SY h
theorem WO:∀{cs:List Cl}{l:List PV}{u:mQ},nX ob cs=some (l,u)→fF ob u
  | [],l,u,h=>by simp[nX]at h;rw[h.2];exact fF.nil ob
  | c::cs,l,u,h=>by
    simp only[nX]at h;split at h;rename_i v u1 l2 u2 h1 h2;simp at h;rw[<- h.2];exact(zo0 h1).append (WO h2);cases h
theorem zcI{c:Cl}{v:PV}{u:mQ}(h:KR ob c=some (v,u)):fF ob u:=by
 unfold KR at h;split at h;split at h;rename_i L off ty cells hL;split at h;rename_i l us hl;simp at h;rw[<- h.2];intro x hx;rcases dR.1 hx with hx|hx
 exact(WO hl x hx).mono λy hy=>dR.2 (.inl hy);simp at hx;subst hx;exact .inr (.inl ⟨_,_,_,_,hL,rfl,hl,λy hy=>dR.2 (.inl hy)⟩);cases h;simp only[bM,gq]at h;rw[<- h.2];exact fF.nil ob;cases h;exact SY h
theorem WP:∀{cs:List Cl}{l:List PV}{u:mQ},tJ ob cs=some (l,u)→fF ob u
  | [],l,u,h=>by simp[tJ]at h;rw[h.2];exact fF.nil ob
  | c::cs,l,u,h=>by
    simp only[tJ]at h;split at h;rename_i v u1 l2 u2 h1 h2;simp at h;rw[<- h.2];exact(zcI h1).append (WP h2);cases h
theorem zaE{c:Cl}{v:PV}{u:mQ}(h:frz ob c=some (v,u)):fF ob u:=by
 unfold frz at h;split at h;split at h;rename_i l us hl;simp only[bM,gq]at h;rw[<- h.2];exact WP hl;cases h;exact zcI h
theorem JY:∀{cs:List Cl}{l:List PV}{u:mQ},uy ob cs=some (l,u)→fF ob u
  | [],l,u,h=>by simp[uy]at h;rw[h.2];exact fF.nil ob
  | c::cs,l,u,h=>by
    simp only[uy]at h;split at h;rename_i v u1 l2 u2 h1 h2;simp at h;rw[<- h.2];exact(zaE h1).append (JY h2);cases h
theorem DK{d:DV}{v:PA}{u:mQ}(h:AY ob d=some (v,u)):fF ob u:=by
 unfold AY at h;split at h;split at h;rename_i v' u' h1;simp at h;rw[<- h.2];exact zaE h1;cases h;split at h;rename_i v' u' h1;simp at h;rw[<- h.2];exact JY h1;cases h;cases h
theorem yZ:∀{cs:List DV}{l:List PA}{u:mQ},iG ob cs=some (l,u)→fF ob u
  | [],l,u,h=>by simp[iG]at h;rw[h.2];exact fF.nil ob
  | c::cs,l,u,h=>by
    simp only[iG]at h;split at h;rename_i v u1 l2 u2 h1 h2;simp at h;rw[<- h.2];exact(DK h1).append (yZ h2);cases h
end
structure fJ (g : Gh) (ob : Nat → Option AO) (u : mQ) (h' : Fz) : Prop where
  le:ku g.h h'
  vec:∀L e s b n get,ob L=some (.vec e s b n get)->(L,AO.fvec s n get)∈u->Rep h' (.sl n s get) (g.sv L)
  fvec:∀L s n get,ob L=some (.fvec s n get)->Rep h' (.sl n s get) (g.sv L)
  vv:∀L te bb e s b n ln get,ob L=some (.vv te bb e s b n ln get)->(L,AO.fvec 1 n (QG s ln get))∈u->Rep h' (.sl n 1 (QG s ln get)) (g.sv L)
  box:∀L ty cells l us,ob L=some (.box ty cells)->nX ob cells=some (l,us)->(∀x∈us,x∈u)->(L,AO.fbox l)∈u->∃C,h' (g.bk L)=some (.fz (.cells C ty (0,0)))/\RL (Rep h') l C.toList
  fbox:∀L l,ob L=some (.fbox l)->∃C ty fr,h' (g.bk L)=some (.fz (.cells C ty fr))/\RL (Rep h') l C.toList
  new:∀b,g.h b=none->∀o,h' b=some o->∃L x o',(L,o')∈u/\ob L=some x/\gY g L x b
section
variable{g:Gh}{ob:Nat->Option AO}{u:mQ}{h':Fz}
theorem fJ.rep0(F:fJ g ob u h'){c:Cl}{v:PV}{us:mQ}{x:Value}(h:AX ob c=some (v,us))(hu:∀y∈us,y∈u)(hc:jk g c x):Rep h' v x:=by
 unfold AX at h;split at h;simp at h;rw[<- h.1];exact Rep.mono F.le hc;split at h;rename_i L _x e s b n get hL;simp at h;rw[<- h.1];rw[<- h.2]at hu;obtain⟨rfl,_⟩:=hc;exact F.vec L e _ b n get hL (hu _ (by simp));rename_i L _x s n get hL;simp at h;rw[<- h.1];obtain⟨rfl,_⟩:=hc;exact F.fvec L _ n get hL;rename_i L _x te bb e s b n ln get hL;simp only[bM,gq]at h;rw[<- h.1];rw[<- h.2]at hu;obtain⟨rfl,_⟩:=hc;exact F.vv L te bb e s b n ln get hL (hu _ (by simp));cases h;cases h
theorem fJ.repL0(F:fJ g ob u h'):∀{cs:List Cl}{l:List PV}{us:mQ}{vs:List Value},jH ob cs=some (l,us)→(∀y∈us,y∈u)→RL (jk g) cs vs→RL (Rep h') l vs
  | [],l,us,vs,h,hu,hc=>by
    simp[jH]at h;rw[h.1];cases vs with|nil=>trivial|cons=>exact hc.elim
  | c::cs,l,us,[],h,hu,hc=>hc.elim
  | c::cs,l,us,v::vs,h,hu,hc=>by
    simp only[jH]at h;split at h;rename_i v1 u1 l2 u2 h1 h2;simp at h;rw[<- h.1];rw[<- h.2]at hu;exact⟨F.rep0 h1 (λy hy=>hu y (dR.2 (.inl hy))) hc.1,F.repL0 h2 (λy hy=>hu y (dR.2 (.inr hy))) hc.2⟩;cases h
theorem Td{h:Fz}{b:Nat}{C:Array Value}{ty:TypeId}{fr:Nat×Nat}{l:List PV}(hb:h b=some (.fz (.cells C ty fr)))(hr:RL (Rep h) l C.toList)(off:Nat) :
    Rep h (.fp l off) (.pointer (some ⟨b,off,none⟩)):=by
  have := Rep.fp (h := h) l off b 0 C ty fr (fun j => C.getD j undef) hb
    (λj x hj=>by
      obtain⟨v,hv,_⟩:=hr.get j x hj;have BL:C[j]? = some v:=by simpa using hv
      simp[yB,BL])
    (λj x hj=>by
      obtain⟨v,hv,hx⟩:=hr.get j x hj;have BL:C[j]? = some v:=by simpa using hv
      simpa [yB,BL]using hx)
  simpa using this
theorem fJ.repA(F:fJ g ob u h'){c:Cl}{v:PV}{us:mQ}{x:Value}(h:KR ob c=some (v,us))(hu:∀y∈us,y∈u)(hc:jk g c x):Rep h' v x:=by
 unfold KR at h;split at h;split at h;rename_i L off _x ty cells hL;split at h;rename_i l us' hl;simp at h;rw[<- h.1];rw[<- h.2]at hu;obtain⟨C,hC,hr⟩:=F.box L ty cells l us' hL hl (λy hy=>hu y (dR.2 (.inl hy))) (hu _ (by simp));simp only[jk]at hc;rw[hc];exact Td hC hr off;cases h;rename_i L off _x l hL;simp at h;rw[<- h.1];obtain⟨C,ty,fr,hC,hr⟩:=F.fbox L l hL;simp only[jk]at hc;rw[hc];exact Td hC hr off;cases h;exact F.rep0 h hu hc
theorem fJ.repAL(F:fJ g ob u h'):∀{cs:List Cl}{l:List PV}{us:mQ}{vs:List Value},tJ ob cs=some (l,us)→(∀y∈us,y∈u)→RL (jk g) cs vs→RL (Rep h') l vs
  | [],l,us,vs,h,hu,hc=>by
    simp[tJ]at h;rw[h.1];cases vs with|nil=>trivial|cons=>exact hc.elim
  | c::cs,l,us,[],h,hu,hc=>hc.elim
  | c::cs,l,us,v::vs,h,hu,hc=>by
    simp only[tJ]at h;split at h;rename_i v1 u1 l2 u2 h1 h2;simp at h;rw[<- h.1];rw[<- h.2]at hu;exact⟨F.repA h1 (λy hy=>hu y (dR.2 (.inl hy))) hc.1,F.repAL h2 (λy hy=>hu y (dR.2 (.inr hy))) hc.2⟩;cases h
theorem fJ.rep(F:fJ g ob u h'){c:Cl}{v:PV}{us:mQ}{x:Value}(h:frz ob c=some (v,us))(hu:∀y∈us,y∈u)(hc:jk g c x):Rep h' v x:=by
 unfold frz at h;split at h;rename_i f caps;split at h;rename_i l us' hl;simp only[bM,gq]at h;obtain⟨rfl,rfl⟩:=h;obtain⟨cv,rfl,hr⟩:=hc;have hr2:RL (jk g) (caps.map zeX) cv:=RL.map_left.2 (hr.mono λc y hy=>by
  cases c with|v p=>exact hy|b L=>exact hy)
 have hl2:=F.repAL hl hu hr2;exact .fn f [] l [] cv rfl hl2.length (λi x y hx _=>by simp at hx) (λi x y hx hy=>by obtain⟨v,hv,hr3⟩:=hl2.get i x hx;rw[hv]at hy;exact SH hy▸hr3);cases h;exact F.repA h hu hc
theorem fJ.repL(F:fJ g ob u h'):∀{cs:List Cl}{l:List PV}{us:mQ}{vs:List Value},uy ob cs=some (l,us)→(∀y∈us,y∈u)→RL (jk g) cs vs→RL (Rep h') l vs
  | [],l,us,vs,h,hu,hc=>by
    simp[uy]at h;rw[h.1];cases vs with|nil=>trivial|cons=>exact hc.elim
  | c::cs,l,us,[],h,hu,hc=>hc.elim
  | c::cs,l,us,v::vs,h,hu,hc=>by
    simp only[uy]at h;split at h;rename_i v1 u1 l2 u2 h1 h2;simp at h;rw[<- h.1];rw[<- h.2]at hu;exact⟨F.rep h1 (λy hy=>hu y (dR.2 (.inl hy))) hc.1,F.repL h2 (λy hy=>hu y (dR.2 (.inr hy))) hc.2⟩;cases h
theorem fJ.repD(F:fJ g ob u h'){d:DV}{v:PA}{us:mQ}{x:Value}(h:AY ob d=some (v,us))(hu:∀y∈us,y∈u)(hc:rW g d x):oC h' v x:=by
 unfold AY at h;split at h;split at h;rename_i v' u' h1;simp at h;rw[<- h.1];rw[<- h.2]at hu;exact F.rep h1 hu hc;cases h;split at h;rename_i v' u' h1;simp at h;rw[<- h.1];rw[<- h.2]at hu;obtain⟨vs,rfl,hr⟩:=hc;exact⟨vs,rfl,F.repL h1 hu hr⟩;cases h;cases h
theorem fJ.repDs(F:fJ g ob u h'):∀{ds:List DV}{l:List PA}{us:mQ}{vs:List Value},iG ob ds=some (l,us)→(∀y∈us,y∈u)→RL (rW g) ds vs→RL (oC h') l vs
  | [],l,us,vs,h,hu,hc=>by
    simp[iG]at h;rw[h.1];cases vs with|nil=>trivial|cons=>exact hc.elim
  | c::cs,l,us,[],h,hu,hc=>hc.elim
  | c::cs,l,us,v::vs,h,hu,hc=>by
    simp only[iG]at h;split at h;rename_i v1 u1 l2 u2 h1 h2;simp at h;rw[<- h.1];rw[<- h.2]at hu;exact⟨F.repD h1 (λy hy=>hu y (dR.2 (.inl hy))) hc.1,F.repDs h2 (λy hy=>hu y (dR.2 (.inr hy))) hc.2⟩;cases h
end
theorem fK{α:Type}{l:List (Nat×α)}{n:Nat}{a:α}(h:lk l n=some a):(n,a)∈l:=by
 induction l with
 | nil=>simp[lk]at h
 | cons x l ih =>
  obtain⟨k,y⟩:=x;rw[aV]at h;split at h;rename_i e;simp at h;subst h;subst e;exact kH;exact jM _ (ih h)
theorem Tf{α:Type}{l:List (Nat×α)}{n:Nat}(h:lk l n=none):∀a,(n,a)∉l:=by
 induction l with
 | nil=>intro a h;simp at h
 | cons x l ih =>
  obtain⟨k,y⟩:=x;rw[aV]at h;split at h;cases h;rename_i e;intro a ha;rcases jV.1 ha with h1|h1
  simp at h1;exact e h1.1.symm;exact ih h a h1
theorem zf{g:Gh}{w:World}{B e s n:Nat}{v:Value}{get:Nat→List PV}{h':Fz}{xs:List Value}(hu:uC get)(hs:0<s)(hx:w.ownsRow B e s v n xs)
    (hr:∀i,i<n->RL (Rep g.h) (get i) ((xs.drop (i*s)).take s)) (hle:ku g.h h') (hb:∀k,v.ownBlock=some k->h' k=(w.heap[k]?).map .fz):Rep h' (.sl n s get) v:=by
  rcases hx.2 with⟨h1,rfl⟩|⟨k,cap,cur,h1,hB,hg,hn,kK,jL,htk⟩
  rw[h1];exact .sl0 s get hu;rw [h1]at hb ⊢;have hk:=hb k rfl;rw[hg]at hk;simp only[Qq]at hk;have hlen:∀i,i<n->(get i).length=s:=by
    intro i hi;rw[(hr i hi).length];simp only[qdC,VO,hx.1];have:i*s+s<=n*s:=by have:=SI s (qdt hi);rw[VQ]at this;exact this
    omega
  have ou:∀i j x,i<n->(get i)[j]? = some x->∃v,cur[i*s+j]? = some v/\Rep g.h x v:=by
    intro i j x hi hj;obtain⟨v,hv,yA⟩:=(hr i hi).get j x hj;refine⟨v,?_,yA⟩;have hjs:j<s:=by
      have:=(BP.1 hj).1;rw[hlen i hi]at this;exact this
    rw[JR,eU hjs,qdl,<- htk,JR]at hv;split at hv;simpa using hv;cases hv
  refine .sl n s get hu k 0 cap cur e (0,0) (λi j=>cur.getD (i*s+j) undef) hk hn hlen ?_ ?_;intro i j x hi hj;obtain⟨v,hv,_⟩:=ou i j x hi hj;rw[PK,yB,hv];rfl;intro i j x hi hj;obtain⟨v,hv,yA⟩:=ou i j x hi hj;simp only[yB,hv,qdO];exact yA.mono hle
theorem zo1{P:Program}{g:Gh}{w:World}{B L e s b n:Nat}{get:Nat→List PV}{h':Fz}(hv:DI P g w B L e s b n get)(hle:ku g.h h')
    (hb:∀k,(g.sv L).ownBlock=some k->h' k=(w.heap[k]?).map .fz):Rep h' (.sl n s get) (g.sv L):=by
  obtain⟨hs,_,xs,hx,hr⟩:=hv;exact zf hs.1 hs.2 hx hr hle hb
theorem zyH{P:Program}{g:Gh}{w:World}{B L te bb e s b n:Nat}{ln:Nat→Nat}{get:Nat→Nat→List PV}{h':Fz}(hv:vvR P g w B L te bb e s b n ln get)(hle:ku g.h h')
    (hb:∀k,gY g L (.vv te bb e s b n ln get) k->h' k=(w.heap[k]?).map .fz):Rep h' (.sl n 1 (QG s ln get)) (g.sv L):=by
  obtain⟨hs,_,_,h4,h5,_⟩:=hv;refine zf (g:=⟨h',g.bk,g.sv,g.iv⟩) (λi j=>⟨uC.sl (λk l=>hs.1 i k j l) _ _ _,trivial⟩) (by decide) h4 ?_ (λ_ _ h=>h) λk hk=>hb k (.inl hk);intro i hi;have e1:(((List.range n).map (g.iv L)).drop (i*1)).take 1=[g.iv L i]:=by
    apply qdd;intro j;rw[JR];cases j with|zero=>simp[hi]|succ j=>simp
  rw[e1];obtain⟨_,_,xs,hx,hr⟩:=h5 i hi;exact⟨zf (λj k=>hs.1 i j i k) hs.2 hx hr hle λk hk=>hb k (.inr ⟨i,hi,hk⟩),trivial⟩
open Classical in
theorem bU.freeze{P:Program}{nt B:Nat}{w0:World}{h0:Fz}{g:Gh}{σ:St}{a:Act}{w:World}(S:bU P nt B w0 h0 g σ a w){u:mQ}(hu:fF (lk σ.ax) u) :
  ∃h',bU P nt B w0 h0 ⟨h',g.bk,g.sv,g.iv⟩ {σ with ax:=u++σ.ax} a w/\fJ g (lk σ.ax) u h':=by
 let inU:Nat->Prop:=λb=>∃L o o',(L,o')∈u/\lk σ.ax L=some o/\gY g L o b;let h':Fz:=λb=>if inU b then(w.heap[b]?).map .fz else g.h b;have hle:ku g.h h':=by
  intro b o hb;show(if inU b then(w.heap[b]?).map .fz else g.h b)=some o;split;rename_i h;obtain⟨L,x,o',_,hL,bZ⟩:=h;rw[(S.own L x b hL bZ).2]at hb;cases hb;exact hb
 have V4:∀b,inU b->h' b=(w.heap[b]?).map .fz:=λb hb=>eU hb;have F9:∀b,¬inU b->h' b=g.h b:=λb hb=>eY hb;have F1:∀L e s b n get,lk σ.ax L=some (.vec e s b n get)->(L,AO.fvec s n get)∈u->Rep h' (.sl n s get) (g.sv L):=by
  intro L e s b n get hL hm;exact zo1 (S.obj L _ hL) hle λk hk=>V4 k ⟨L,_,_,hm,hL,hk⟩
 have F3:∀L te bb e s b n ln get,lk σ.ax L=some (.vv te bb e s b n ln get)->(L,AO.fvec 1 n (QG s ln get))∈u->Rep h' (.sl n 1 (QG s ln get)) (g.sv L):=by
  intro L te bb e s b n ln get hL hm;exact zyH (S.obj L _ hL) hle λk hk=>V4 k ⟨L,_,_,hm,hL,hk⟩
 have F2:∀L s n get,lk σ.ax L=some (.fvec s n get)->Rep h' (.sl n s get) (g.sv L):=λL s n get hL=>Rep.mono hle (S.obj L _ hL).1;have F0:fJ g (lk σ.ax) u h':=by
  have Fpre:∀{cs:List Cl}{l:List PV}{us:mQ}{vs:List Value},jH (lk σ.ax) cs=some (l,us)->(∀y∈us,y∈u)->RL (jk g) cs vs->RL (Rep h') l vs:=by
   intro cs
   induction cs with
   | nil =>
    intro l us vs h _ hc;simp[jH]at h;rw[h.1];cases vs with|nil=>trivial|cons=>exact hc.elim
   | cons c cs ih =>
    intro l us vs h Po hc;cases vs with
    | nil=>exact hc.elim
    | cons v vs =>
     simp only[jH]at h;split at h;rename_i v1 u1 l2 u2 h1 h2;simp at h;rw[<- h.1];rw[<- h.2]at Po;refine⟨?_,ih h2 (λy hy=>Po y (dR.2 (.inr hy))) hc.2⟩;have hu1:∀y∈u1,y∈u:=λy hy=>Po y (dR.2 (.inl hy));have F6:=hc.1;unfold AX at h1;split at h1;simp at h1;rw[<- h1.1];exact Rep.mono hle F6;split at h1;rename_i L _x e s b n get hL;simp at h1;rw[<- h1.1];rw[<- h1.2]at hu1;obtain⟨rfl,_⟩:=F6;exact F1 L e _ b n get hL (hu1 _ (by simp));rename_i L _x s n get hL;simp at h1;rw[<- h1.1];obtain⟨rfl,_⟩:=F6;exact F2 L _ n get hL;rename_i L _x te bb e s b n ln get hL;simp only[bM,gq]at h1;rw[<- h1.1];rw[<- h1.2]at hu1;obtain⟨rfl,_⟩:=F6;exact F3 L te bb e s b n ln get hL (hu1 _ (by simp));cases h1;cases h1;cases h
  have Fbox:∀L l,lk σ.ax L=some (.fbox l)->∃C ty fr,h' (g.bk L)=some (.fz (.cells C ty fr))/\RL (Rep h') l C.toList:=by
   intro L l hL;obtain⟨C,ty,fr,hC,hr⟩:=S.obj L _ hL;exact⟨C,ty,fr,hle _ _ hC,hr.mono λ_ _=>Rep.mono hle⟩
  have FpreB:∀{cs:List Cl}{l:List PV}{us:mQ}{vs:List Value},nX (lk σ.ax) cs=some (l,us)->(∀y∈us,y∈u)->RL (jk g) cs vs->RL (Rep h') l vs:=by
   intro cs
   induction cs with
   | nil =>
    intro l us vs h _ hc;simp[nX]at h;rw[h.1];cases vs with|nil=>trivial|cons=>exact hc.elim
   | cons c cs ih =>
    intro l us vs h Po hc;cases vs with
    | nil=>exact hc.elim
    | cons v vs =>
     simp only[nX]at h;split at h;rename_i v1 u1 l2 u2 h1 h2;simp at h;rw[<- h.1];rw[<- h.2]at Po;refine⟨?_,ih h2 (λy hy=>Po y (dR.2 (.inr hy))) hc.2⟩;have hu1:∀y∈u1,y∈u:=λy hy=>Po y (dR.2 (.inl hy));have F6:=hc.1;have low:AX (lk σ.ax) c=some (v1,u1)->Rep h' v1 v:=λh0=>(Fpre (cs:=[c]) (l:=[v1]) (us:=u1) (vs:=[v]) (by simp[jH,h0]) hu1 ⟨F6,trivial⟩).1;unfold PO at h1;split at h1;split at h1;rename_i L off _x ty cells hL;split at h1;rename_i l' us' hl;simp at h1;rw[<- h1.1];rw[<- h1.2]at hu1;obtain⟨C,hC,hr⟩:=S.obj L _ hL;have hm:(L,AO.fbox l')∈u:=hu1 _ (by simp);have hk:h' (g.bk L)=some (.fz (.cells C ty (0,0))):=by
      rw[V4 (g.bk L) ⟨L,_,_,hm,hL,rfl⟩,hC];rfl
     simp only[jk]at F6;rw[F6];exact Td hk (Fpre hl (λy hy=>hu1 y (dR.2 (.inl hy))) hr) off;cases h1;rename_i L off _x l' hL;simp at h1;rw[<- h1.1];obtain⟨C,ty,fr,hC,hr⟩:=Fbox L l' hL;simp only[jk]at F6;rw[F6];exact Td hC hr off;cases h1;exact low h1;cases h
  refine⟨hle,F1,F2,F3,?_,?_,λb hb o ho=>?_⟩
  rotate_left 2
  by_cases h:inU b;obtain⟨L,x,o',h1,h2,h3⟩:=h;exact⟨L,x,o',h1,h2,h3⟩;rw[F9 b h,hb]at ho;cases ho;intro L ty cells l us hL hl Po hm;obtain⟨C,hC,hr⟩:=S.obj L _ hL;refine⟨C,?_,FpreB hl Po hr⟩;rw[V4 (g.bk L) ⟨L,_,_,hm,hL,rfl⟩,hC];rfl;exact Fbox
 refine⟨h',?_,F0⟩;have kJ:∀L o,lk (u++σ.ax) L=some o->((L,o)∈u)\/((∀o',(L,o')∉u)/\lk σ.ax L=some o):=by
  intro L o h;rw[gZ]at h;cases hL:lk u L with|some x=>simp only[hL]at h;simp at h;subst h;exact .inl (fK hL)|none=>simp only[hL]at h;exact .inr ⟨Tf hL,h⟩
 have hfr:∀L o b,(L,o)∈u->¬gY (⟨h',g.bk,g.sv,g.iv⟩:Gh) L o b:=by
  intro L o b h;rcases hu _ h with⟨e,s,b,n,get,_,h2⟩|⟨ty,cells,l,us,_,h2,_⟩|⟨te,bb,e,s,b,n,ln,get,_,h2⟩<;>(simp only at h2;rw[h2];exact id)
 have iH:∀L o,gY (⟨h',g.bk,g.sv,g.iv⟩:Gh) L o=gY g L o:=λL o=>gV (g:=g) (g':=⟨h',g.bk,g.sv,g.iv⟩) ⟨rfl,rfl,rfl⟩;have yJ:∀L o,lk σ.ax L=some o->∃o',lk (u++σ.ax) L=some o':=by
  intro L o h;rw[gZ];cases lk u L with|some x=>exact⟨x,rfl⟩|none=>exact⟨o,h⟩
 refine S.change (g':=⟨h',g.bk,g.sv,g.iv⟩) (λ_ _ _=>⟨rfl,rfl,rfl⟩) hle ?_ ?_ (.refl _ B w) ?_ ?_ ?_ yJ ?_;intro b o hb;have mP:h' b=some o:=hb;by_cases h:inU b;rw [V4 b h]at mP;obtain⟨x,hx,rfl⟩:=dqP.1 mP;exact⟨x,hx,rfl⟩;rw[F9 b h]at mP;exact S.hw b o mP;intro b o hb;by_cases h:inU b;obtain⟨L,x,o',hm,hL,bZ⟩:=h;exact .inr (S.own L x b hL bZ).1;have mP:h' b=some o:=hb;rw[F9 b h]at mP;exact .inl mP;intro L o ho;rcases kJ L o ho with hm|⟨hn,ho⟩
 rcases hu _ hm with⟨e,s,b,n,get,h1,h2⟩|⟨ty,cells,l,us,h1,h2,h3,h4⟩|⟨te,bb,e,s,b,n,ln,get,h1,h2⟩
 simp only at h1 h2;rw [h2];rw [h2]at hm;refine⟨F0.vec L e s b n get h1 hm,?_⟩;obtain⟨_,_,xs,hx,_⟩:=S.obj L _ h1;intro x m c hv;show x.off=0;have BL:g.sv L=.slice (some x) m c:=hv;rcases hx.2 with⟨h5,_⟩|⟨k,cap,cur,h5,_⟩
 rw[h5]at BL;simp at BL;rw[h5]at BL;simp at BL;rw[<- BL.1];simp only at h1 h2;rw [h2];rw [h2]at hm;obtain⟨C,hC,hr⟩:=F0.box L ty cells l us h1 h3 h4 hm;exact⟨C,ty,(0,0),hC,hr⟩;simp only at h1 h2;rw [h2];rw [h2]at hm;refine⟨F0.vv L te bb e s b n ln get h1 hm,?_⟩;obtain⟨_,_,_,hx,_⟩:=S.obj L _ h1;intro x m c hv;show x.off=0;have BL:g.sv L=.slice (some x) m c:=hv;rcases hx.2 with⟨h5,_⟩|⟨k,cap,cur,h5,_⟩
 rw[h5]at BL;simp at BL;rw[h5]at BL;simp at BL;rw[<- BL.1];exact jX (S.obj L o ho) ⟨rfl,rfl,rfl⟩ (λ_ _=>⟨rfl,rfl,rfl⟩) hle λ_ _=>rfl;intro L o b ho bZ;rcases kJ L o ho with hm|⟨hn,ho⟩
 exact(hfr L o _ hm bZ).elim;rw [iH]at bZ;obtain⟨h1,h2⟩:=S.own L o b ho bZ;refine⟨h1,?_⟩;show h' b=none;rw[F9 b ?_];exact h2;rintro⟨M,x,o',hm,hM,iE⟩;have:=S.sep L o b M x ho hM bZ iE;subst this;exact hn o' hm;intro L o b L' o' ho kV bZ iE;rcases kJ L o ho with hm|⟨_,o9⟩
 exact(hfr L o _ hm bZ).elim;rcases kJ L' o' kV with hm|⟨_,nS⟩
 exact(hfr L' o' _ hm iE).elim;rw[iH]at bZ iE;exact S.sep L o b L' o' o9 nS bZ iE;intro L o ho M hM;rcases kJ L o ho with hm|⟨_,o9⟩
 rcases hu _ hm with⟨e,s,b,n,get,_,h2⟩|⟨ty,cells,l,us,_,h2,_⟩|⟨te,bb,e,s,b,n,ln,get,_,h2⟩<;>(simp only at h2;rw[h2]at hM;simp[dS]at hM)
 obtain⟨x,hx⟩:=S.clO L o o9 M hM;exact yJ M x hx
end Go.Pm
namespace Go.Pm
variable [aH]
open Go.RowKit (Below)
def aC.safe:aC→Prop|.no=>False|.val _ _ _ _=>True|.chk _ s _ _ _=>s.p
def oN(A:aC)(i:Nat)(dst:Option Nat)(σ σ':St):Prop :=
 match A with|.no=>False|.val fp d u kl=>σ'=σ.upd i dst fp d u kl|.chk fp _ d u kl=>σ'=σ.upd i dst fp d u kl
theorem GG{A:aC}{lg:List (Nat×Bool)→List Nat→List (Nat×Nat×Nat)}{i:Nat}{dst:Option Nat}{K:St→Prop}{σ:St} :
  nY A lg i dst K σ↔A.safe/\∀σ',oN A i dst σ σ'->K (σ'.relog (match A with | .val fp _ _ kl=>lg fp kl | .chk fp _ _ _ kl=>lg fp kl | .no=>[])):=by
 cases A with|no=>simp[nY,aC.safe]|val fp d u kl=>simp[nY,aC.safe,oN]|chk fp s d u kl=>simp[nY,aC.safe,oN]
def FR(r:Option Nat):Fence:={fn:=λ_=>True,depth:=none,alive:=false,round:=r}
theorem LM{r:Option Nat}{n:Nat}{P:Program}{f:FuncId}{args:Array Value}{w:World}{R:Ending->World->Prop}(h:Calls P f args w R):CallsIn (FR r) n P f args w R :=
 (callsIn_wide (n:=n)).2 h
section
variable{P:Program}{r:Option Nat}{n:Nat}{o:Oper}{a:Act}{w:World}{R:Act->World->Prop}{Q:Exit->Act->World->Prop}
theorem put_defers(a:Act)(dst:Option Nat)(v:Value):(a.put dst v).defers=a.defers:=by cases dst<;>rfl
theorem qB(Aa:∀c,o.op ≠ .defer c){v:Value}{w':World}(h:(execOp a.eval o).run P w=.ok (.value v) w')(hR:R (a.put o.dst v) w'):o.wpIn (FR r) n P a w (λa' w'=>a'.defers=a.defers/\R a' w') Q:=by
 refine⟨λ_ _=>trivial,?_⟩;rw[Oper.semAt_eq _ _ _ Aa,h,Oper.uponIn_value];exact⟨put_defers _ _ _,hR⟩
theorem JZ(Aa:∀c,o.op ≠ .defer c){w':World}(h:(execOp a.eval o).run P w=.ok .skip w')(hR:R (a.put o.dst undef) w'):o.wpIn (FR r) n P a w (λa' w'=>a'.defers=a.defers/\R a' w') Q:=by
 refine⟨λ_ _=>trivial,?_⟩;rw[Oper.semAt_eq _ _ _ Aa,h,Oper.uponIn_skip];exact⟨put_defers _ _ _,hR⟩
theorem rX(Aa:∀c,o.op ≠ .defer c){f:FuncId}{args:Array Value}{w':World}(h:(execOp a.eval o).run P w = .ok (.enter f args) w')
    (hR:Calls P f args w' λe AV=>∃v,e=.returned v/\R (a.put o.dst v) AV):o.wpIn (FR r) n P a w (λa' w'=>a'.defers=a.defers/\R a' w') Q:=by
  refine⟨λ_ _=>trivial,?_⟩;rw[Oper.semAt_eq _ _ _ Aa,h,Oper.uponIn_enter];refine⟨λh=>by simp[FR]at h,(LM hR).mono ?_⟩;rintro e AV ⟨v,rfl,hv⟩;exact⟨put_defers _ _ _,hv⟩
end
section
variable{P:Program}{nt B:Nat}{w0:World}{h0:Fz}{g:Gh}{σ:St}{a:Act}{w:World}
theorem zfa{v:Value}:rW g (Qu v) v:=by
 unfold Qu;split;split;rename_i l hl;exact⟨_,rfl,kR _ _ hl⟩;trivial;split;rename_i x hx;exact LH hx;trivial
theorem bU.ev(S:bU P nt B w0 h0 g σ a w)(x:Operand):rW g (fU σ.env x) (a.eval x):=by
 cases x with
 | tmp t =>
  simp only[fU];split;rename_i d hd;exact S.env t d hd;trivial
 | const v=>exact zfa
 | global k=>trivial
 | func f=>exact Rep.fn f [] [] [] [] rfl rfl (λj x v h=>by simp at h) (λj x v h=>by simp at h)
theorem wX:∀{l:List Value}{cs:List Cl},jF l=some cs→cs.flatMap bg=[]
  | [],cs,h=>by simp[jF]at h;rw[h];rfl
  | v::r,cs,h=>by
    simp only[jF]at h;split at h;rename_i x l hx hl;simp only[bM]at h;rw[<- h];simp[bg,wX hl];cases h
theorem zfb{v:Value}:bY (Qu v)=[]:=by
 unfold Qu;split;split;rename_i l hl;exact wX hl;rfl;split;rfl;rfl
theorem bU.evLab(S:bU P nt B w0 h0 g σ a w)(x:Operand):∀L∈bY (fU σ.env x),∃o,lk σ.ax L=some o:=by
 cases x with
 | tmp t =>
  simp only[fU];split;rename_i d hd;exact S.clE t d hd;intro L hL;simp[bY,dC,bg]at hL
 | const v=>intro L hL;rw[show fU σ.env (.const v)=Qu v from rfl,zfb]at hL;simp at hL
 | global k=>intro L hL;simp[fU,DV.junk,bY,dC,bg]at hL
 | func f=>intro L hL;simp[fU,bY,dC,bg]at hL
theorem dK{r:Option Nat}{n i:Nat}{o:Oper}{Q:Exit→Act→World→Prop}(S:bU P nt B w0 h0 g σ a w)(hd:dH nt o.dst=true)(Aa:∀c,o.op ≠ .defer c)
    {d:DV} {v:Value} {fp:List (Nat×Bool)} {A:aC} (hA:oN A i o.dst σ (σ.upd i o.dst fp d [] []))
    (h:(execOp a.eval o).run P w=.ok (.value v) w) (hv:rW g d v) (hl:∀L∈bY d,∃o,lk σ.ax L=some o) :
    o.wpIn (FR r) n P a w (λa' w'=>a'.defers=a.defers/\∃g' σ',oN A i o.dst σ σ'/\bU P nt B w0 h0 g' σ' a' w') Q :=
  qB Aa h ⟨g,_,hA,by rw[fZ];exact S.put hd hv hl _⟩
theorem kN(v:PV):∀L∈bY (.p v),∃o,lk σ.ax L=some o:=λL hL=>by simp[bY,dC,bg]at hL
theorem LP{t:TypeId}{ag:Bool}{m b off:Nat}{C:Array Value}{ty:TypeId}{fr:Nat×Nat}{cells:List Cl}{d:D1}(hg:jG P t=some ag)(hs:qK P t=some m)
    (hb:w.heap[b]? = some (.cells C ty fr)) (o:Nat) (hc:∀(j:Nat)(x:Cl),cells[j]? = some x->∃v,C[o+j]? = some v/\jk g x v) (hr:oH ag m cells off=some d) :
    ∃v,(loadVar t ⟨b,o+off,none⟩).run P w=.ok v w/\BB g d v:=by
  cases ag with
  | true =>
    simp only[oH]at hr;split at hr;rename_i hlen;have hlen:=lu hlen;simp only[bM]at hr;subst hr;let l:=(cells.drop off).take m;have hll:l.length=m:=hlen;have key:∀(j:Nat)(x:Cl),l[j]? = some x->∃v,C[o+off+j]? = some v/\jk g x v:=by
      intro j x hj;have rC:cells[off+j]? = some x:=by
        have hjm:j<m:=by have:=(BP.1 hj).1;omega
        simp only[l,JR,eU hjm,qdl]at hj;exact hj
      obtain⟨v,hv,hx⟩:=hc (off+j) x rC;exact⟨v,by rw[qjA];exact hv,hx⟩
    let vs:=(List.range m).map λj=>C.getD (o+off+j) undef;have hvl:vs.length=m:=by simp[vs]
    have hvj:∀j,j<m->vs[j]? = some (C.getD (o+off+j) undef):=λj hj=>by simp[vs,hj]
    refine⟨.agg vs.toArray,JB hg hs hb vs hvl ?_,vs,rfl,?_⟩;intro j v hj;have hjm:j<m:=by have:=(BP.1 hj).1;omega
    rw[hvj j hjm]at hj;simp only[bM]at hj;obtain⟨u,hu,_⟩:=key j (l[j]'omY) (by simp[hll,hjm]);rw[<- hj,hu,yB,hu];rfl;refine RL.of_get (by rw [hvl];exact hll) ?_;intro j x v hx hv;obtain⟨u,hu,ZY⟩:=key j x hx;have hjm:j<m:=by have:=(BP.1 hv).1;omega
    rw[hvj j hjm,yB,hu]at hv;simp at hv;rw[<- hv];exact ZY;cases hr
  | false =>
    simp only[oH]at hr;split at hr;rename_i x hx;simp only[bM]at hr;subst hr;obtain⟨v,hv,yA⟩:=hc off x hx;exact⟨v,yh hg hb v hv,yA⟩;cases hr
theorem LQ{ag:Bool}{m off:Nat}{cells:List Cl}{d:D1}(hr:oH ag m cells off=some d):∀L∈dC d,L∈cells.flatMap bg:=by
 cases ag with
 | true =>
  simp only[oH]at hr;split at hr;simp only [bM]at hr;subst hr;intro L hL;simp only[dC,mg]at hL ⊢;obtain⟨c,hc,hL⟩:=hL;exact⟨c,jq6 (jq7 hc),hL⟩;cases hr
 | false =>
  simp only[oH]at hr;split at hr;rename_i x hx;simp only[bM]at hr;subst hr;intro L hL;simp only[dC]at hL;exact mg.2 ⟨x,KP hx,hL⟩;cases hr
theorem oO(cells:List PV):(cells.map Cl.p).flatMap bg=[]:=by
 induction cells with|nil=>rfl|cons c r ih=>simp[bg,ih]
theorem Ti{h:Fz}{cells:List PV}{off:Nat}{v:Value}(r:Rep h (.fp cells off) v):∃b o C ty fr,v=.pointer (some ⟨b,o+off,none⟩)/\h b=some (.fz (.cells C ty fr)) /\
  ∀(j:Nat)(x:PV),cells[j]? = some x->∃v,C[o+j]? = some v/\Rep h x v:=by
 cases r with|fp _ _ b o C ty fr vs hb hc hr=>exact⟨b,o,C,ty,fr,rfl,hb,λj x hj=>⟨vs j,hc j x hj,hr j x hj⟩⟩
theorem vP{B L e s b len:Nat}{get:Nat→List PV}(hv:DI P g w B L e s b len get){i:Nat}(hi:i<len) :
  ∃k C,(g.sv L).ownBlock=some k/\(∃cap,g.sv L=.slice (some ⟨k,0,none⟩) len cap)/\w.heap[k]? = some (.cells C e (0,0))/\i*s+s<=C.size/\(get i).length=s /\
   ∀(j:Nat)(x:PV),(get i)[j]? = some x->∃v,C[i*s+j]? = some v/\Rep g.h x v:=by
 obtain⟨hs,_,xs,hx,hr⟩:=hv;rcases hx.2 with⟨_,rfl⟩|⟨k,cap,cur,h1,hB,hg,hn,kK,jL,htk⟩
 exact absurd hi omY;have hle:i*s+s≤len*s:=by have:=SI s (qdt hi);rw [VQ]at this;exact this
 have zvg:len*s<=cap*s:=SI s hn;have hlen:(get i).length=s:=by
  rw[(hr i hi).length];simp only[qdC,VO,hx.1];omega
 refine⟨k,cur,by rw[h1];rfl,⟨cap,h1⟩,hg,omY,hlen,?_⟩;intro j x hj;obtain⟨v,hv,yA⟩:=(hr i hi).get j x hj;refine⟨v,?_,yA⟩;have hjs:j<s:=by have:=(BP.1 hj).1;rw[hlen]at this;exact this
 rw[JR,eU hjs,qdl,<- htk,JR]at hv;split at hv;simpa using hv;cases hv
theorem WQ{B L te bb e s b n:Nat}{ln:Nat→Nat}{get:Nat→Nat→List PV}(hv:vvR P g w B L te bb e s b n ln get){i:Nat}(hi:i<n) :
  ∃k C cap,g.sv L=.slice (some ⟨k,0,none⟩) n cap/\w.heap[k]? = some (.cells C te (0,0))/\C[i]? = some (g.iv L i)/\(g.iv L i).oneCell'=true:=by
 obtain⟨_,_,_,h4,h5,_⟩:=hv;rcases h4.2 with⟨h1,h2⟩|⟨k,cap,cur,h1,hB,hg,hn,kK,jL,htk⟩
 omega;refine⟨k,cur,cap,h1,hg,?_,(h5 i hi).1⟩;have:(cur.toList.take (n*1))[i]? = ((List.range n).map (g.iv L))[i]?:=by rw[htk]
 rw[JR,eU omY]at this;simpa [hi]using this
theorem WR{B L te bb e s b n o:Nat}{ln:Nat→Nat}{get:Nat→Nat→List PV}(hv:vtR P g w B L te bb e s b n ln get o){i:Nat}(hi:i<n) :
  ∃k C cap,g.sv L=.slice (some ⟨k,0,none⟩) n cap/\w.heap[k]? = some (.cells C te (0,0))/\C[i]? = some (g.iv L i):=by
 obtain⟨_,_,_,h4,_⟩:=hv;rcases h4.2 with⟨h1,h2⟩|⟨k,cap,cur,h1,hB,hg,hn,kK,jL,htk⟩
 omega;refine⟨k,cur,cap,h1,hg,?_⟩;have:(cur.toList.take (n*1))[i]? = ((List.range n).map (g.iv L))[i]?:=by rw[htk]
 rw[JR,eU omY]at this;simpa [hi]using this
theorem Tj{h:Fz}{len s:Nat}{get:Nat→List PV}{v:Value}(r:Rep h (.sl len s get) v){i:Nat}(hi:i<len) :
  ∃b o cap C ty fr,v=.slice (some ⟨b,o,none⟩) len cap/\h b=some (.fz (.cells C ty fr))/\(get i).length=s /\
   ∀(j:Nat)(x:PV),(get i)[j]? = some x->∃v,C[o+i*s+j]? = some v/\Rep h x v:=by
 cases r with|sl0=>exact absurd hi omY|sle=>exact absurd hi omY|sl _ _ _ _ b o cap C ty fr vs hb kK hlen hc hr=>exact⟨b,o,cap,C,ty,fr,rfl,hb,hlen i hi,λj x hj=>⟨vs i j,hc i j x hi hj,hr i j x hi hj⟩⟩
theorem J3{h:Fz}{b o:Nat}{C:Array Value}{ty:TypeId}{fr:Nat×Nat}{l:List PV}(hb:h b=some (.fz (.cells C ty fr)))
    (hr:∀(j:Nat)(x:PV),l[j]? = some x->∃v,C[o+j]? = some v/\Rep h x v) (off:Nat):Rep h (.fp l off) (.pointer (some ⟨b,o+off,none⟩)) :=
  Rep.fp l off b o C ty fr (fun j => C.getD (o + j) undef) hb
    (λj x hj=>by obtain⟨v,hv,_⟩:=hr j x hj;rw[yB,hv];rfl)
    (λj x hj=>by obtain⟨v,hv,hx⟩:=hr j x hj;simpa [yB,hv]using hx)
end
end Go.Pm
namespace Go.Pm
variable [aH]
open Go.RowKit (Below)
section
variable{P:Program}{Γ:bI}{nt B:Nat}{w0:World}{h0:Fz}{g:Gh}{σ:St}{a:Act}{w:World}{r:Option Nat}{n i:Nat}{Q:Exit->Act->World->Prop}
def jr(P:Program)(nt B:Nat)(w0:World)(h0:Fz)(r:Option Nat)(n i:Nat)(o:Oper)(A:aC)(σ:St)(a:Act)(w:World)(Q:Exit->Act->World->Prop):Prop :=
 o.wpIn (FR r) n P a w (λa' w'=>a'.defers=a.defers/\∃g' σ',oN A i o.dst σ σ'/\bU P nt B w0 h0 g' σ' a' w') Q
theorem iQ{x:Operand}{c:Cl}(S:bU P nt B w0 h0 g σ a w)(h:fU σ.env x=.one (.c c)):jk g c (a.eval x)/\∀L∈bg c,∃o,lk σ.ax L=some o:=by
 have h1:=S.ev x;have h2:=S.evLab x;rw[h]at h1 h2;exact⟨h1,h2⟩
theorem jI{x:Operand}{v:PV}(S:bU P nt B w0 h0 g σ a w)(h:fU σ.env x=.one (.c (.p v))):Rep g.h v (a.eval x):=(iQ S h).1
theorem kF{x:Operand}{k:IntKind}{m:Int}(S:bU P nt B w0 h0 g σ a w)(h:fU σ.env x=.one (.c (.p (.int k m)))):a.eval x=.int k m:=by
 have:=jI S h;generalize a.eval x=v at this;cases this;rfl
theorem vS{x:Operand}{m:Bool}(S:bU P nt B w0 h0 g σ a w)(h:fU σ.env x=.one (.c (.p (.bool m)))):a.eval x=.bool m:=by
 have:=jI S h;generalize a.eval x=v at this;cases this;rfl
theorem WS{o:Oper}{x:Operand}(S:bU P nt B w0 h0 g σ a w)(hd:dH nt o.dst=true)(aY:o.op = .move x∨o.op = .assign x) :
  jr P nt B w0 h0 r n i o (.val [] (fU σ.env x) [] []) σ a w Q:=by
 refine dK S hd (by rcases aY with h|h<;>simp[h]) (d:=fU σ.env x) (v:=a.eval x) (fp:=[]) rfl ?_ (S.ev x) (S.evLab x);rcases aY with h|h<;>simp[execOp,h]
theorem WT{b:Bool}{x y:DV}{v u:Value}(h1:rW g x v)(h2:rW g y u):rW g (BA b x y) (if b=true then v else u):=by
 unfold BA;split;rename_i p q;have e1:v=.bool p:=by cases h1;rfl
 have e2:u=.bool q:=by cases h2;rfl
 subst e1 e2;cases b<;>exact Rep.bool _;cases b;simpa using h2;simpa using h1
theorem zfc{b:Bool}{x y:DV}:∀L∈bY (BA b x y),L∈bY x\/L∈bY y:=by
 unfold BA;split;intro L hL;simp[bY,dC,bg]at hL;intro L hL;cases b;exact .inr hL;exact .inl hL
theorem zin{o:Oper}{c x y:Operand}(S:bU P nt B w0 h0 g σ a w)(hd:dH nt o.dst=true)(aY:o.op = .pick c x y){t:Bool}(hc:fU σ.env c = .one (.c (.p (.bool t)))) :
  jr P nt B w0 h0 r n i o (.val [] (BA t (fU σ.env x) (fU σ.env y)) [] []) σ a w Q:=by
 have hb:=vS S hc;refine dK S hd (by simp[aY]) (d:=BA t (fU σ.env x) (fU σ.env y)) (v:=if t=true then a.eval x else a.eval y) (fp:=[]) rfl ?_ (WT (S.ev x) (S.ev y)) ?_;simp[execOp,aY,asBool,hb];intro L hL;rcases zfc L hL with h|h
 exact S.evLab x L h;exact S.evLab y L h
theorem LU(e:TypeId)(v:Value):(newVar e v).run P w=.ok ⟨w.heap.size,0,none⟩ (w.alloc (.cells v.cells e)):=by
 simp[newVar,newRow]
theorem zcJ{o:Oper}{A:aC}{e:Nat}{cs:List Cl}{v:Value}(S:bU P nt B w0 h0 g σ a w)(hd:dH nt o.dst=true)(Aa:∀c,o.op ≠ .defer c)
    (hA:Gu (lk σ.ax) o.dst (.box e cs) (λt=>.cl (.ptr t 0))=A) (hs:A.safe)
    (df:(execOp a.eval o).run P w=.ok (.value (.pointer (some ⟨w.heap.size,0,none⟩))) (w.alloc (.cells v.cells e)))
    (hv:RL (jk g) cs v.cells.toList) (hl:∀L∈cs.flatMap bg,∃o,lk σ.ax L=some o):jr P nt B w0 h0 r n i o A σ a w Q:=by
  unfold Gu at hA;split at hA;rename_i t ht;split at hA;rename_i kJ;subst hA;have S':=S.newBox (ty:=e) kJ hv hl;refine qB Aa df ⟨g.setBk t w.heap.size,_,rfl,?_⟩;rw[fZ];refine S'.put (σ:={σ with ax:=(t,AO.box e cs)::σ.ax}) hd (d:=.cl (.ptr t 0)) ?_ ?_ _;simp[rW,BB,jk,Gh.setBk];intro L hL;simp[bY,dC,bg]at hL;subst hL;exact⟨_,by rw[aV,eU rfl]⟩;subst hA;exact hs.elim;subst hA;exact hs.elim
theorem WU{l:List Value}{cs:List Cl}(h:jF l=some cs)(L:Nat)(hL:L∈cs.flatMap bg):False:=by
 rw[wX h]at hL;simp at hL
theorem zfd{o:Oper}{A:aC}{e:Nat}{z:List Cl}(S:bU P nt B w0 h0 g σ a w)(hd:dH nt o.dst=true)(aY:o.op = .alloc e)(hz:gX P e=some z)
    (hA:Gu (lk σ.ax) o.dst (.box e z) (λt=>.cl (.ptr t 0))=A) (hs:A.safe):jr P nt B w0 h0 r n i o A σ a w Q:=by
  obtain⟨ii,v,hi,Iw,hl,_⟩:=lW hz;refine zcJ S hd (by simp[aY]) hA hs (v:=v) ?_ (kR _ _ hl) (λL hL=>(WU hl L hL).elim);simp only[execOp,aY,Instr.alloc,Sem.run_bind,lG hi Iw,Result.andThen_ok,LU,Sem.run_pure]
theorem zo2{o:Oper}{A:aC}{e:Nat}{x:Operand}{d:D1}(S:bU P nt B w0 h0 g σ a w)(hd:dH nt o.dst=true)(aY:o.op = .box e x)(hx:fU σ.env x = .one d)
    (gp:d.cells.all Dv=true) (hA:Gu (lk σ.ax) o.dst (.box e d.cells) (λt=>.cl (.ptr t 0))=A) (hs:A.safe):jr P nt B w0 h0 r n i o A σ a w Q:=by
  have h1:=S.ev x;have h2:=S.evLab x;rw[hx]at h1 h2;refine zcJ S hd (by simp[aY]) hA hs (v:=a.eval x) ?_ (vN h1 gp) ?_;simp only[execOp,aY,Instr.box,Sem.run_bind,LU,Result.andThen_ok,Sem.run_pure]
  · intro L hL;refine h2 L ?_;cases d with|c y=>simpa [D1.cells,bY,dC]using hL|agg cs=>simpa [D1.cells,bY,dC]using hL
theorem zfe{o:Oper}{t:Nat}{parts:Array (Nat×Operand)}{z l:List Cl}(S:bU P nt B w0 h0 g σ a w)(hd:dH nt o.dst=true)(aY:o.op = .build t parts)
    (hf:yQ P t=true) (hz:gX P t=some z) (hb:iO P t (fU σ.env) z parts.toList=some l) (hl:∀L∈l.flatMap bg,∃o,lk σ.ax L=some o) :
    jr P nt B w0 h0 r n i o (.val [] (.one (.agg l)) [] []) σ a w Q:=by
  obtain⟨v,df,hv⟩:=run_build (P:=P) (w:=w) (g:=g) (ρ:=a.eval) (ev:=fU σ.env) (λx=>S.ev x) hf hz hb;refine dK S hd (by simp[aY]) (d:=.one (.agg l)) (v:=v) (fp:=[]) rfl ?_ hv hl;simp only[execOp,aY,Sem.run_bind,df,Result.andThen_ok,Sem.run_pure]
theorem zcK{cs l:List Cl}(off:Nat):∀L∈(spl cs off l).flatMap bg,L∈cs.flatMap bg\/L∈l.flatMap bg:=by
 induction l generalizing cs off with
 | nil=>intro L hL;exact .inl hL
 | cons x l ih =>
  intro L hL;rw[spl]at hL;rcases ih (off+1) L hL with h|h
  simp only [mg]at h;obtain⟨c,hc,hL2⟩:=h;rcases qdn hc with h|h
  exact .inl (mg.2 ⟨c,h,hL2⟩);subst h;exact .inr (by simp only[oG,dR];exact .inl hL2);exact .inr (by simp only[oG,dR];exact .inr h)
theorem LV{ev:Operand->DV}{t:TypeId}:∀(parts:List (Nat×Operand))(z l:List Cl),iO P t ev z parts=some l ->
  ∀L∈l.flatMap bg,L∈z.flatMap bg\/∃x∈parts,L∈bY (ev x.2)
 | [],z,l,h=>by simp[iO]at h;subst h;exact λL hL=>.inl hL
 | (i,o)::r,z,l,h=>by
  simp only[iO]at h;cases he:ev o with
  | tup ds=>simp[he]at h
  | one d =>
   simp only[he]at h;have step:∀off,iO P t ev (spl z off d.cells) r=some l->∀L∈l.flatMap bg,L∈z.flatMap bg\/∃x∈(i,o)::r,L∈bY (ev x.2):=by
    intro off hb L hL;rcases LV r _ l hb L hL with h|⟨x,hx,hL⟩
    rcases zcK off L h with h|h
    exact .inl h
    ·refine .inr ⟨(i,o),kH,?_⟩;simp only[he,bY];cases d with|c y=>simpa [D1.cells,dC]using h|agg cs=>simpa [D1.cells,dC]using h
    exact .inr ⟨x,jM _ hx,hL⟩
   split at h;split at h;split at h;split at h;exact step _ h;cases h;cases h;cases h;split at h;split at h;exact step _ h;cases h;cases h;cases h
theorem QH{t:TypeId}{z:List Cl}(h:gX P t=some z):z.flatMap bg=[]:=by
 obtain⟨_,v,_,_,hl,_⟩:=lW h;exact wX hl
theorem zg{o:Oper}{t:TypeId}{x:Operand}{A:aC}{fp:List (Nat×Bool)}{ag:Bool}{m b off o':Nat}{C:Array Value}{ty:TypeId}{fr:Nat×Nat}{cells:List Cl}{d:D1}
    (S:bU P nt B w0 h0 g σ a w) (hd:dH nt o.dst=true) (aY:o.op=.load t x) (hA:oN A i o.dst σ (σ.upd i o.dst fp (.one d) [] [])) (hg:jG P t=some ag) (hs:qK P t=some m)
    (hx:a.eval x=.pointer (some ⟨b,o'+off,none⟩)) (hb:w.heap[b]? = some (.cells C ty fr))
    (hc:∀(j:Nat)(x:Cl),cells[j]? = some x->∃v,C[o'+j]? = some v/\jk g x v) (hr:oH ag m cells off=some d)
    (hl:∀L∈cells.flatMap bg,∃o,lk σ.ax L=some o):jr P nt B w0 h0 r n i o A σ a w Q:=by
  obtain⟨v,df,hv⟩:=LP hg hs hb o' hc hr;refine dK S hd (by simp[aY]) (d:=.one d) (v:=v) (fp:=fp) hA ?_ hv (λL hL=>hl L (LQ hr L hL));simp only[execOp,aY,Sem.run_bind,Instr.loadAt,hx,Instr.sureAddr,Sem.run_pure,Result.andThen_ok,df]
theorem zio{o:Oper}{t:TypeId}{x:Operand}{A:aC}(S:bU P nt B w0 h0 g σ a w)(hd:dH nt o.dst=true)(aY:o.op = .load t x)
    (hA:act P Γ o (fU σ.env) (lk σ.ax)=A) (hs:A.safe):jr P nt B w0 h0 r n i o A σ a w Q:=by
  simp only[act,aLd,aY]at hA;split at hA;rename_i ag m hg jL;split at hA;rename_i L off hx;have yP:=(iQ S hx).1;simp only[jk]at yP;split at hA;rename_i ty cells hL;obtain⟨C,hC,hr⟩:=S.obj L _ hL;split at hA;rename_i d hrd;subst hA;refine zg (o':=0) S hd aY rfl hg jL (by rw[yP,PK]) hC (λj y hj=>?_) hrd (S.clO L _ hL);obtain⟨v,hv,Sz⟩:=hr.get j y hj;exact⟨v,by simpa using hv,Sz⟩;subst hA;exact hs.elim;rename_i cells hL;obtain⟨C,ty,fr,hC,hr⟩:=S.obj L _ hL;split at hA;rename_i d hrd;subst hA;refine zg (o':=0) S hd aY rfl hg jL (by rw[yP,PK]) (S.hw.fz hC) (λj y hj=>?_) hrd (by rw[oO];intro L hL;simp at hL);simp only[qde]at hj;obtain⟨p,hp,rfl⟩:=dqP.1 hj;obtain⟨v,hv,Sz⟩:=hr.get j p hp;exact⟨v,by simpa using hv,Sz⟩;subst hA;exact hs.elim;subst hA;exact hs.elim;rename_i cells off hx;obtain⟨b,o',C,ty,fr,hv,hb,hc⟩:=Ti (jI S hx);split at hA;rename_i d hrd;subst hA;refine zg S hd aY rfl hg jL hv (S.hw.fz hb) (λj y hj=>?_) hrd (by rw[oO];intro L hL;simp at hL);simp only[qde]at hj;obtain⟨p,hp,rfl⟩:=dqP.1 hj;exact hc j p hp;subst hA;exact hs.elim;rename_i L s ii k hx;obtain⟨b,hb,yP⟩:=(iQ S hx).1;split at hA;rename_i e s' Qh len get hL;split at hA;rename_i d Qg hrd;subst hA;have iF:ii<len:=hs;have Qg:=lu Qg;subst Qg;obtain⟨b',C,bZ,_,hC,_,hlen,Iy⟩:=vP (S.obj L _ hL) iF;rw[hb]at bZ;simp only[bM]at bZ;subst bZ;refine zg (o':=ii*s) S hd aY (A:=.chk _ _ _ _ _) rfl hg jL yP hC (λj y hj=>?_) hrd (by rw[oO];intro L hL;simp at hL);simp only[qde]at hj;obtain⟨p,hp,rfl⟩:=dqP.1 hj;exact Iy j p hp;subst hA;exact hs.elim;rename_i s' len get hL;split at hA;rename_i d Qg hrd;subst hA;have iF:ii<len:=hs;have Qg:=lu Qg;subst Qg;obtain⟨b',o',cap,C,ty,fr,mO,hC,hlen,Iy⟩:=Tj (S.obj L _ hL).1 iF;have h00:o'=0:=(S.obj L _ hL).2 _ _ _ mO;rw[mO]at hb;simp only[Value.ownBlock,bM]at hb;subst hb;subst h00;refine zg (o':=ii*s) S hd aY (A:=.chk _ _ _ _ _) rfl hg jL yP (S.hw.fz hC) (λj y hj=>?_) hrd (by rw[oO];intro L hL;simp at hL);simp only[qde]at hj;obtain⟨p,hp,rfl⟩:=dqP.1 hj;have:=Iy j p hp;rwa[PK]at this;subst hA;exact hs.elim;split at hA;rename_i Qg;simp only[fQ]at Qg;have hs1:=lu Qg.1;have hk0:=lu Qg.2;subst hs1 hk0;split at hA;rename_i dst Iu;split at hA;rename_i te bb e s' b2 len ln get iq hL;subst hA;have iF:ii<len:=hs;obtain⟨b',C,cap,mO,hC,ou,l9⟩:=WQ (S.obj L _ hL) iF;rw[mO]at hb;simp only[Value.ownBlock,bM]at hb;subst hb;have jb:L≠dst:=by rintro rfl;rw[iq]at hL;cases hL
  obtain⟨iL,hi1,hi2,zn6,Iy,JP⟩:=S.obj L _ hL;obtain⟨r1,_,xs,r3,r4⟩:=Iy ii iF
  have S1 := S.write (o' := .vt te bb e s' b2 len ln get ii) hL (fun k hk => hk.imp id fun ⟨i, h1, _, h2⟩ => ⟨i, h1, h2⟩) (.refl _ _) (fun _ _ => rfl)
    ⟨iL,hi1,hi2,zn6,r1,(λk (hk:g.iv L ii=.map (some k))=>by rcases r3.2 with⟨h1,_⟩|⟨_,_,_,h1,_⟩<;>rw[h1]at hk<;>cases hk),λi hi _=>Iy i hi,λi k hi _ hk=>⟨(JP i k hi hk).1,λj hj _ jO=>(JP i k hi hk).2 j hj jO⟩⟩ (λM hM=>by simp[dS]at hM)
  have S2:=S1.adopt (t:=dst) (e:=e) (s:=s') (b:=b2) (n:=ln ii) (get:=get ii) (v:=g.iv L ii) (by rw[aV,eY jb];exact iq) (λk hk=>by
    have gp:=S.own L _ k hL (.inr ⟨ii,iF,hk⟩);refine⟨gp.1,gp.2,λX o ho hX=>?_⟩;rw[aV]at ho;split at ho;rename_i e1;simp only[bM]at ho;subst ho e1;rcases hX with hX|⟨i,h1,h2,h3⟩
    exact(JP ii k iF hk).1 hX;exact h2 ((JP ii k iF hk).2 i h1 h3).symm;rename_i e1;exact e1 (S.sep L _ k X o hL ho (.inr ⟨ii,iF,hk⟩) hX))
    ⟨⟨λk l=>iL.1 ii k ii l,iL.2⟩,hi2,xs,by simpa [Gh.setSv]using r3,r4⟩
  refine qB (by simp[aY]) (v:=g.iv L ii) (w':=w) ?_ ⟨g.setSv dst (g.iv L ii),_,rfl,?_⟩;have:=yh (P:=P) (o:=ii*1+0) hg hC (g.iv L ii) (by simpa using ou);simp only[execOp,aY,Sem.run_bind,Instr.loadAt,yP,Instr.sureAddr,Sem.run_pure,Result.andThen_ok,this];rw [fZ];exact S2.put hd (d:=.cl (.vec dst)) ⟨by simp[Gh.setSv],r1⟩ (λM hM=>by simp[bY,dC,bg]at hM;subst hM;exact⟨_,by rw[aV,eU rfl]⟩) _;subst hA;exact hs.elim;subst hA;exact hs.elim;subst hA;exact hs.elim;subst hA;exact hs.elim;subst hA;exact hs.elim;subst hA;exact hs.elim
end
end Go.Pm
namespace Go.Pm
variable [aH]
open Go.RowKit (Below)
open Go.MapKept (IsKey findNow_spec run_checkKey)
section
variable{P:Program}{Γ:bI}{nt B:Nat}{w0:World}{h0:Fz}{g:Gh}{σ:St}{a:Act}{w:World}{r:Option Nat}{n i:Nat}{Q:Exit->Act->World->Prop}
theorem DL{t:TypeId}{ag:Bool}{m off:Nat}{cells:List Cl}{vs:List Value}{d:D1}(hg:jG P t=some ag)(hs:qK P t=some m)(hr:oH ag m cells off=some d)(hc:RL (jk g) cells vs) :
  ∃v,(part t vs.toArray off).run P w=.ok v w/\BB g d v:=by
 cases ag with
 | true =>
  simp only[oH]at hr;split at hr;simp only [bM]at hr;subst hr;refine⟨.agg (vs.toArray.extract off (off+m)),?_,(vs.drop off).take m,?_,(hc.drop off).take m⟩;simp only[part,Sem.run_bind,oM hg,Result.andThen_ok,Qs,run_sizeOf hs,Sem.run_pure];simp[jq8,jqI];cases hr
 | false =>
  simp only[oH]at hr;split at hr;rename_i x hx;simp only[bM]at hr;subst hr;obtain⟨v,hv,yA⟩:=hc.get off x hx;refine⟨v,?_,yA⟩;simp only[part,Sem.run_bind,oM hg,Result.andThen_ok,qdz,qje];rw[show vs.toArray[off]? = some v by simpa using hv];simp;cases hr
theorem zcL:∀(d:Nat)(t:TypeId)(x y:D1)(r:Bool),eqT P d t x y=some r→∀(e:Nat)(v u:Value),BB g x v→BB g y u→(Op.equalIn (d+e) t v u).run P w = .ok r w
  | 0,t,x,y,r,h=>by simp[eqT]at h
  | d+1,t,x,y,r,h=>by
    intro e v u hv hu;have he:d+1+e=(d+e)+1:=by omega
    rw[he];simp only[eqT]at h;split at h;rename_i hut;split at h;simp only [bM]at h;subst h;cases hv;cases hu;exact run_equalIn_bool' w _ _ _ _ hut;cases h;rename_i q hut;split at h;split at h;rename_i hk;simp only[bM]at h;subst h;subst hk;cases hv;cases hu;exact run_equalIn_int w _ _ _ _ _ _ hut;cases h;cases h
    · rename_i fs hut;split at h
      · rename_i xs ys Gn;obtain⟨vs,rfl,jE⟩:=hv;obtain⟨us,rfl,Po⟩:=hu;have hf:P.fieldsOf t=fs:=by simp[Program.fieldsOf,hut]
        rw[run_equalIn_struct w (d+e) t _ _ (by rw[hf];exact hut) Gn,hf];have key:∀(l:List Field)(r:Bool),l.foldr (λf acc =>
            match acc, f.name != "_", jG P f.type, qK P f.type with
            | some r,true,some ag,some n=>match oH ag n xs f.offset,oH ag n ys f.offset with
              | some a,some b=>match eqT P d f.type a b with
                | some e=>some (match e with|true=>r|false=>false)
                | none=>none
              | _,_=>none
            | _,_,_,_=>none) (some true)=some r->(Op.eqFields (d+e) vs.toArray us.toArray l).run P w=.ok r w:=by
          intro l
          induction l with
          | nil=>intro r h;simp only[List.foldr_nil,bM]at h;subst h;simp[Op.eqFields]
          | cons f l ih =>
            intro r h;rw[List.foldr_cons]at h;split at h
            · rename_i r' ag m z1o zOk vk jL;split at h
              · rename_i a' b' ha' mP;split at h
                · rename_i e' he';simp only[bM] at h;obtain⟨va,hva,hra⟩:=DL (w:=w) vk jL ha' jE;obtain⟨vb,hvb,hrb⟩:=DL (w:=w) vk jL mP Po;have hq:=zcL d f.type a' b' e' he' e va vb hra hrb
                  have hn : f.name ≠ "_" := by simpa using zOk
                  simp only[Op.eqFields,eU hn,Sem.run_bind,hva,hvb,hq,Result.andThen_ok];cases e' with|true=>simp only at h;subst h;simpa using ih r' z1o|false=>simp only at h;subst h;simp
                cases h
              cases h
            cases h
        exact key fs.toList r h
      cases h
    cases h
theorem zyI{o:Oper}{op:BinOp}{t t':TypeId}{x y:Operand}{cs ds:List Cl}{A:aC}(S:bU P nt B w0 h0 g σ a w)(hd:dH nt o.dst=true)(aY:o.op = .binOp op t x y t')
    (hx:fU σ.env x=.one (.agg cs)) (hy:fU σ.env y=.one (.agg ds)) (hA:zcA P op t cs ds=A) (hs:A.safe):jr P nt B w0 h0 r n i o A σ a w Q:=by
  have h1:=S.ev x;have h2:=S.ev y;rw[hx]at h1;rw[hy]at h2;obtain⟨vs,hv,_⟩:=id h1;obtain⟨us,hu,_⟩:=id h2;unfold zcA at hA;split at hA;rename_i q hgd hq;have df:=zcL (w:=w) 8 t (.agg cs) (.agg ds) q hq 9992 _ _ h1 h2;rw[hv,hu]at df;split at hA;subst hA;refine dK S hd (by simp[aY]) (d:=.bool q) (v:=.bool q) (fp:=[]) rfl ?_ (.bool q) (kN _);simp only[execOp,aY,hv,hu,Sem.run_bind,run_eqGuard_agg w _ _ _ _ _ _ hgd,Result.andThen_ok,run_eql_struct];rw[df];rfl;subst hA;refine dK S hd (by simp[aY]) (d:=.bool (!q)) (v:=.bool (!q)) (fp:=[]) rfl ?_ (.bool (!q)) (kN _);simp only[execOp,aY,hv,hu,Sem.run_bind,run_eqGuard_agg w _ _ _ _ _ _ hgd,Result.andThen_ok,run_neq_struct];rw[df];rfl;subst hA;exact hs.elim;subst hA;exact hs.elim
theorem zff{o:Oper}{t:TypeId}{x y:Operand}{A:aC}(S:bU P nt B w0 h0 g σ a w)(hd:dH nt o.dst=true)(aY:o.op = .index t x y)
    (hA:act P Γ o (fU σ.env) (lk σ.ax)=A) (hs:A.safe):jr P nt B w0 h0 r n i o A σ a w Q:=by
  simp only[act,aY,KW]at hA;split at hA;rename_i m e hu;split at hA;rename_i sz ag cs k j jL vk hx hy;split at hA;rename_i d iF hr;subst hA;have h1:=S.ev x;rw[hx]at h1;obtain⟨vs,hv,jE⟩:=h1;have hj:=kF S hy;obtain⟨v,df,hdv⟩:=DL (w:=w) vk jL hr jE;have zvt:j<m:=by simpa [qjl]using iF
  refine dK S hd (by simp[aY]) (d:=.one d) (v:=v) (fp:=[]) rfl ?_ hdv (λL hL=>?_);simp only [execOp,aY,hv,hj,Instr.index,asIntOf,Sem.run_bind,Sem.run_pure,Result.andThen_ok,run_underlying hu];rw[eU ⟨by simp,by simpa using zvt⟩];simp only[Sem.run_bind,run_sizeOf jL,Result.andThen_ok];rw[show(Int.ofNat j).toNat=j from rfl,df];rfl;refine S.evLab x L ?_;rw[hx];exact LQ hr L hL;subst hA;exact hs.elim;subst hA;exact hs.elim;subst hA;exact hs.elim
theorem zfg{o:Oper}{t:TypeId}{x:Operand}{f:Nat}{A:aC}(S:bU P nt B w0 h0 g σ a w)(hd:dH nt o.dst=true)(aY:o.op = .field t x f)
    (hA:act P Γ o (fU σ.env) (lk σ.ax)=A) (hs:A.safe):jr P nt B w0 h0 r n i o A σ a w Q:=by
  simp only[act,aY,KX]at hA;split at hA;rename_i fs hu;split at hA;rename_i fd hfd;split at hA;rename_i m ag cs jL vk hx;split at hA;rename_i d hr;subst hA;have h1:=S.ev x;rw[hx]at h1;obtain⟨vs,hv,jE⟩:=h1;obtain⟨v,df,hdv⟩:=DL (w:=w) vk jL hr jE;refine dK S hd (by simp[aY]) (d:=.one d) (v:=v) (fp:=[]) rfl ?_ hdv (λL hL=>?_);simp only [execOp,aY,hv,Instr.field,asAgg,Sem.run_bind,Sem.run_pure,Result.andThen_ok,run_underlying hu,hfd];rw[df];rfl;refine S.evLab x L ?_;rw[hx];exact LQ hr L hL;subst hA;exact hs.elim;subst hA;exact hs.elim;subst hA;exact hs.elim;subst hA;exact hs.elim
theorem Tm{o:Oper}{t e:TypeId}{m:Nat}{x y:Operand}{A:aC}(S:bU P nt B w0 h0 g σ a w)(hd:dH nt o.dst=true)(aY:o.op = .indexAddr t x y)(hu:P.underlying t=some (.array m e))
    (hA:Dx P m e (fU σ.env x) (fU σ.env y)=A) (hs:A.safe):jr P nt B w0 h0 r n i o A σ a w Q:=by
  unfold Dx at hA;split at hA;rename_i sz k j jL hy;split at hA;rename_i iF;have hj:=kF S hy;have zvt:j<m:=by simpa [qjl]using iF
  have run:∀b o':Nat,a.eval x=.pointer (some ⟨b,o',none⟩)->(execOp a.eval o).run P w=.ok (.value (.pointer (some ⟨b,o'+j*sz,none⟩))) w:=by
    intro b o' hv;simp only[execOp,aY,hv,hj,Instr.indexAt,asIntOf,Sem.run_bind,Sem.run_pure,Result.andThen_ok,run_underlying hu,Instr.sureAddr];rw[eU ⟨by simp,by simpa using zvt⟩];simp only[Sem.run_bind,run_sizeOf jL,Result.andThen_ok,addr_add,Sem.run_pure];rfl
  split at hA;rename_i L off hx;subst hA;obtain⟨h1,h2⟩:=iQ S hx;exact dK S hd (by simp[aY]) (d:=.cl (.ptr L (off+j*sz))) (fp:=[]) rfl (run _ _ h1) rfl h2;rename_i c off hx;subst hA;obtain⟨b,o',C,ty,fr,hv,hb,hc⟩:=Ti (jI S hx);have:=run b (o'+off) hv;rw[qjA]at this;exact dK S hd (by simp[aY]) (d:=.p (.fp c (off+j*sz))) (fp:=[]) rfl this (J3 hb hc _) (kN _);subst hA;exact hs.elim;subst hA;exact hs.elim;subst hA;exact hs.elim
theorem zcM(j:Int):IsKey (.int .i64) (.int .i64 j):=by simp[IsKey]
theorem zcN:∀{cs:List Cl}{l:List Int}{vs:List Value},KU cs=some l→RL (jk g) cs vs→vs=l.map (Value.int .i64)
  | [],l,[],h,_=>by simp[KU]at h;subst h;rfl
  | [],_,_::_,_,hr=>hr.elim
  | _::_,_,[],_,hr=>hr.elim
  | c::cs,l,v::vs,h,hr=>by
    cases c with
    | p x =>
      cases x with
      | int k a' =>
        cases k<;>simp only[KU]at h<;>try cases h
        split at h;rename_i l' yK;simp only[bM]at h;subst h;have h1:=hr.1;cases h1;rw[zcN yK hr.2];rfl;cases h
      | _=>simp[KU]at h
    | _=>simp[KU]at h
end
end Go.Pm
namespace Go.Pm
variable [aH]
open Go.RowKit (Below)
section
variable{P:Program}{Γ:bI}{nt B:Nat}{w0:World}{h0:Fz}{g:Gh}{σ:St}{a:Act}{w:World}{r:Option Nat}{n i:Nat}{Q:Exit->Act->World->Prop}
theorem Tn{o:Oper}{x:Operand}{A:aC}(S:bU P nt B w0 h0 g σ a w)(hd:dH nt o.dst=true)(aY:o.op = .nilCheck x)
    (hA:act P Γ o (fU σ.env) (lk σ.ax)=A) (hs:A.safe):jr P nt B w0 h0 r n i o A σ a w Q:=by
  simp only[act,aNc,aY]at hA;split at hA;rename_i L off hx;subst hA;obtain⟨h1,h2⟩:=iQ S hx;refine dK S hd (by simp[aY]) (v:=a.eval x) (fp:=[]) rfl ?_ h1 h2;simp only[jk]at h1;simp[execOp,aY,h1];rename_i c off hx;subst hA;obtain⟨h1,h2⟩:=iQ S hx;refine dK S hd (by simp[aY]) (v:=a.eval x) (fp:=[]) rfl ?_ h1 h2;obtain⟨b,o',C,ty,fr,hv,_⟩:=Ti h1;simp[execOp,aY,hv];rename_i L s ii k hx;subst hA;obtain⟨h1,h2⟩:=iQ S hx;refine dK S hd (by simp[aY]) (v:=a.eval x) (fp:=[]) rfl ?_ h1 h2;obtain⟨b,_,hv⟩:=h1;simp[execOp,aY,hv];subst hA;exact hs.elim
theorem yj{op:BinOp}{t:TypeId}{x y:Operand}{k k':IntKind}{p q:Int}:(eqGuard op t x y (.int k p) (.int k' q)).run P w=.ok () w:=by
 unfold eqGuard;cases op<;>rfl
theorem vT{op:BinOp}{t:TypeId}{x y:Operand}{p q:Bool}:(eqGuard op t x y (.bool p) (.bool q)).run P w=.ok () w:=by
 unfold eqGuard;cases op<;>rfl
theorem zfh{o:Oper}{op:BinOp}{t t':TypeId}{x y:Operand}{A:aC}(S:bU P nt B w0 h0 g σ a w)(hd:dH nt o.dst=true)(aY:o.op = .binOp op t x y t')
    (hA:act P Γ o (fU σ.env) (lk σ.ax)=A) (hs:A.safe):jr P nt B w0 h0 r n i o A σ a w Q:=by
  simp only[act,aBn,aY]at hA;split at hA;rename_i k p k' q hx hy;have h1:=kF S hx;have h2:=kF S hy;split at hA;rename_i hk;subst hk;have fin:∀(v:PV)(u:Value)(A:aC),oN A i o.dst σ (σ.upd i o.dst [] (.p v) [] [])->(binOp op t (.int k p) (.int k q)).run P w=.ok u w->Rep g.h v u->jr P nt B w0 h0 r n i o A σ a w Q:=by
    intro v u A hA df hr;refine dK S hd (by simp[aY]) (d:=.p v) (v:=u) (fp:=[]) hA ?_ hr (kN v);simp only[execOp,aY,h1,h2,Sem.run_bind,yj,Result.andThen_ok,df,Sem.run_pure]
  unfold Wu at hA;split at hA<;>subst hA;have hq:0≤q:=hs;exact fin _ _ (.chk _ _ _ _ _) rfl (by simp[binOp,Op.shift,jqM.2 hq,zaq]) (.int _ _);have hq:0≤q:=hs;exact fin _ _ (.chk _ _ _ _ _) rfl (by simp[binOp,Op.shift,jqM.2 hq,Gs]) (.int _ _);exact fin _ _ _ rfl (by simp[binOp,Op.intBits,KT]) (.int _ _);exact fin _ _ _ rfl (by simp[binOp,Op.intBits,orW]) (.int _ _);exact fin _ _ _ rfl (by simp[binOp,Op.intBits,zGP]) (.int _ _);exact fin _ _ _ rfl (by simp[binOp,Op.intBits,qU]) (.int _ _);exact fin _ _ _ rfl (by simp[binOp,Op.intArith]) (.int _ _);exact fin _ _ _ rfl (by simp[binOp,Op.intArith]) (.int _ _);exact fin _ _ _ rfl (by simp[binOp,Op.intArith]) (.int _ _);have hq:q≠0:=hs;exact fin _ _ (.chk _ _ _ _ _) rfl (by simp[binOp,Op.intDiv,hq]) (.int _ _);have hq:q≠0:=hs;exact fin _ _ (.chk _ _ _ _ _) rfl (by simp[binOp,Op.intDiv,hq]) (.int _ _);exact fin _ _ _ rfl (by simp[binOp,Op.intCmp]) (.bool _);exact fin _ _ _ rfl (by simp[binOp,Op.intCmp]) (.bool _);exact fin _ _ _ rfl (by simp[binOp,Op.intCmp]) (.bool _);exact fin _ _ _ rfl (by simp[binOp,Op.intCmp]) (.bool _);exact fin _ _ _ rfl (by simp[binOp,Op.intCmp]) (.bool _);exact fin _ _ _ rfl (by simp[binOp,Op.intCmp]) (.bool _);have fin:∀(v:PV)(u:Value)(A:aC),oN A i o.dst σ (σ.upd i o.dst [] (.p v) [] [])->(binOp op t (.int k p) (.int k' q)).run P w=.ok u w->Rep g.h v u->jr P nt B w0 h0 r n i o A σ a w Q:=by
    intro v u A hA df hr;refine dK S hd (by simp[aY]) (d:=.p v) (v:=u) (fp:=[]) hA ?_ hr (kN v);simp only[execOp,aY,h1,h2,Sem.run_bind,yj,Result.andThen_ok,df,Sem.run_pure]
  unfold zh8 at hA;split at hA<;>subst hA;have hq:0≤q:=hs;exact fin _ _ (.chk _ _ _ _ _) rfl (by simp[binOp,Op.shift,jqM.2 hq,zaq]) (.int _ _);have hq:0≤q:=hs;exact fin _ _ (.chk _ _ _ _ _) rfl (by simp[binOp,Op.shift,jqM.2 hq,Gs]) (.int _ _);exact hs.elim;rename_i p q hx hy;have h1:=vS S hx;have h2:=vS S hy;have df:P.underlying t=some .bool->(Op.equal t (.bool p) (.bool q)).run P w=.ok (p==q) w:=by
    intro ht;unfold Op.equal;rw[show Op.maxDepth=9999+1 from rfl,Op.equalIn];simp only[Sem.run_bind,run_underlying ht,Result.andThen_ok,Sem.run_pure]
  split at hA<;>(try rename_i ht _)<;>subst hA;refine dK S hd (by simp [aY]) (d := .bool (p==q)) (v := .bool (p==q)) (fp:=[]) rfl ?_ (.bool _) (kN _);simp only[execOp,aY,h1,h2,Sem.run_bind,vT,Result.andThen_ok,binOp,df ‹_›,Sem.run_pure];refine dK S hd (by simp [aY]) (d := .bool (p != q)) (v := .bool (p != q)) (fp:=[]) rfl ?_ (.bool _) (kN _);simp only[execOp,aY,h1,h2,Sem.run_bind,vT,Result.andThen_ok,binOp,df ‹_›,Sem.run_pure];rfl;exact hs.elim;rename_i cs ds hx hy;exact zyI S hd aY hx hy hA hs;subst hA;exact hs.elim
theorem ziq{o:Oper}{op:UnOp}{t:TypeId}{x:Operand}{A:aC}(S:bU P nt B w0 h0 g σ a w)(hd:dH nt o.dst=true)(aY:o.op = .unOp op t x)
    (hA:act P Γ o (fU σ.env) (lk σ.ax)=A) (hs:A.safe):jr P nt B w0 h0 r n i o A σ a w Q:=by
  simp only[act,aUn,aY]at hA;split at hA;rename_i p hx;subst hA;have h1:=vS S hx;refine dK S hd (by simp[aY]) (d:=.bool (!p)) (v:=.bool (!p)) (fp:=[]) rfl ?_ (.bool _) (kN _);simp[execOp,aY,h1,Op.unary];rename_i k p hx;subst hA;have h1:=kF S hx;refine dK S hd (by simp[aY]) (d:=.p (.int k (k.wrap (0-p)))) (v:=.int k (k.wrap (0-p))) (fp:=[]) rfl ?_ (.int _ _) (kN _);simp only[execOp,aY,h1,Op.unary,Op.intArith,Sem.run_bind,Sem.run_pure,Result.andThen_ok];subst hA;exact hs.elim
theorem WV{o:Oper}{t1 t2:TypeId}{x:Operand}{A:aC}(S:bU P nt B w0 h0 g σ a w)(hd:dH nt o.dst=true)(aY:o.op = .convert t1 t2 x)
    (hA:act P Γ o (fU σ.env) (lk σ.ax)=A) (hs:A.safe):jr P nt B w0 h0 r n i o A σ a w Q:=by
  simp only[act,aCv,aY]at hA;split at hA;rename_i u1 k k' m h1 h2 hx;subst hA;have hv:=kF S hx;refine dK S hd (by simp[aY]) (d:=.p (.int k (k.wrap m))) (v:=.int k (k.wrap m)) (fp:=[]) rfl ?_ (.int _ _) (kN _);simp only[execOp,aY,hv,convert,Sem.run_bind,run_underlying h1,run_underlying h2,Result.andThen_ok,Conv.intToInt,Sem.run_pure];subst hA;exact hs.elim
theorem PT{o:Oper}{t:TypeId}{x:Operand}{f:Nat}{A:aC}(S:bU P nt B w0 h0 g σ a w)(hd:dH nt o.dst=true)(aY:o.op = .fieldAddr t x f)
    (hA:act P Γ o (fU σ.env) (lk σ.ax)=A) (hs:A.safe):jr P nt B w0 h0 r n i o A σ a w Q:=by
  simp only[act,aFa,aY]at hA;split at hA;rename_i off z0Q
  have fin:∀(b o':Nat)(c:Cl)(A:aC),a.eval x=.pointer (some ⟨b,o',none⟩)->oN A i o.dst σ (σ.upd i o.dst [] (.cl c) [] [])->jk g c (.pointer (some ⟨b,o'+off,none⟩)) ->
      (∀L∈bg c,∃o,lk σ.ax L=some o)->jr P nt B w0 h0 r n i o A σ a w Q:=by
    intro b o' c A hv hA hc hl;refine dK S hd (by simp[aY]) (d:=.cl c) (v:=.pointer (some ⟨b,o'+off,none⟩)) (fp:=[]) hA ?_ hc hl;simp only[execOp,aY,Sem.run_bind,hv,WG z0Q,Result.andThen_ok,Sem.run_pure]
  split at hA;rename_i L k hx;subst hA;obtain⟨h1,h2⟩:=iQ S hx;exact fin _ _ _ _ h1 rfl rfl h2;rename_i c k hx;subst hA;obtain⟨h1,h2⟩:=iQ S hx;obtain⟨b,o',C,ty,fr,hv,hb,hc⟩:=Ti h1;refine fin b (o'+k) _ _ hv rfl ?_ h2;rw[qjA];exact J3 hb hc (k+off);rename_i L s ii k hx;subst hA;obtain⟨h1,h2⟩:=iQ S hx;obtain⟨b,hb,hv⟩:=h1;refine fin b (ii*s+k) _ _ hv rfl ⟨b,hb,?_⟩ h2;rw[qjA];subst hA;exact hs.elim;subst hA;exact hs.elim
theorem PU{o:Oper}{t:TypeId}{x y:Operand}{A:aC}(S:bU P nt B w0 h0 g σ a w)(hd:dH nt o.dst=true)(aY:o.op = .indexAddr t x y)
    (hA:act P Γ o (fU σ.env) (lk σ.ax)=A) (hs:A.safe):jr P nt B w0 h0 r n i o A σ a w Q:=by
  simp only[act,aIa,aY]at hA;split at hA;rename_i e hu;split at hA;rename_i m k j jL hy;have hj:=kF S hy;split at hA;rename_i len s get hx;split at hA;rename_i hsm;subst hsm;subst hA;have pM:0<=j/\j<(len:Int):=hs;have iF:j.toNat<len:=by omega
  obtain⟨b,o',cap,C,ty,fr,hv,hb,hlen,Iy⟩:=Tj (jI S hx) iF;refine dK S hd (by simp[aY]) (d:=.p (.fp (get j.toNat) 0)) (v:=.pointer (some ⟨b,o'+j.toNat*s,none⟩)) (fp:=[]) (A:=.chk _ _ _ _ _) rfl ?_ ?_ (kN _);simp only[execOp,aY,Sem.run_bind,hv,hj,run_indexAt_slice hu jL pM.1 pM.2,Result.andThen_ok,Sem.run_pure];exact J3 hb Iy 0;subst hA;exact hs.elim;rename_i L hx;obtain⟨h1,h2⟩:=iQ S hx;split at hA;rename_i e' s Qh len get hL;split at hA;rename_i hsm;subst hsm;subst hA;have pM:0<=j/\j<(len:Int):=hs;have iF:j.toNat<len:=by omega
  obtain⟨b,C,bZ,⟨cap,mO⟩,hC,_,hlen,Iy⟩:=vP (S.obj L _ hL) iF;refine dK S hd (by simp[aY]) (d:=.cl (.vptr L s j.toNat 0)) (v:=.pointer (some ⟨b,0+j.toNat*s,none⟩)) (fp:=_) (A:=.chk _ _ _ _ _) rfl ?_ ?_ h2;simp only[execOp,aY,Sem.run_bind,h1.1,mO,hj,run_indexAt_slice hu jL pM.1 pM.2,Result.andThen_ok,Sem.run_pure];refine⟨b,bZ,?_⟩;simp;subst hA;exact hs.elim;rename_i s len get hL;split at hA;rename_i hsm;subst hsm;subst hA;have pM:0<=j/\j<(len:Int):=hs;have iF:j.toNat<len:=by omega
  obtain⟨b,o',cap,C,ty,fr,hv,hb,hlen,Iy⟩:=Tj (S.obj L _ hL).1 iF;refine dK S hd (by simp[aY]) (d:=.p (.fp (get j.toNat) 0)) (v:=.pointer (some ⟨b,o'+j.toNat*s,none⟩)) (fp:=_) (A:=.chk _ _ _ _ _) rfl ?_ ?_ (kN _);simp only[execOp,aY,Sem.run_bind,h1.1,hv,hj,run_indexAt_slice hu jL pM.1 pM.2,Result.andThen_ok,Sem.run_pure];exact J3 hb Iy 0;subst hA;exact hs.elim;rename_i te bb e' s Qh len ln get hL;split at hA;rename_i hsm;subst hsm;subst hA;have pM:0<=j/\j<(len:Int):=hs;have iF:j.toNat<len:=by omega
  obtain⟨b,C,cap,mO,hC,_,_⟩:=WQ (S.obj L _ hL) iF;refine dK S hd (by simp[aY]) (d:=.cl (.vptr L 1 j.toNat 0)) (v:=.pointer (some ⟨b,0+j.toNat*1,none⟩)) (fp:=_) (A:=.chk _ _ _ _ _) rfl ?_ ?_ h2;simp only[execOp,aY,Sem.run_bind,h1.1,mO,hj,run_indexAt_slice hu jL pM.1 pM.2,Result.andThen_ok,Sem.run_pure];refine⟨b,by rw [mO];rfl,?_⟩;simp;subst hA;exact hs.elim;rename_i te bb e' s Qh len ln get o2 hL;split at hA;rename_i hsm;subst hsm;subst hA;have pM:0<=j/\j<(len:Int):=hs;have iF:j.toNat<len:=by omega
  obtain⟨b,C,cap,mO,hC,_⟩:=WR (S.obj L _ hL) iF;refine dK S hd (by simp[aY]) (d:=.cl (.vptr L 1 j.toNat 0)) (v:=.pointer (some ⟨b,0+j.toNat*1,none⟩)) (fp:=_) (A:=.chk _ _ _ _ _) rfl ?_ ?_ h2;simp only[execOp,aY,Sem.run_bind,h1.1,mO,hj,run_indexAt_slice hu jL pM.1 pM.2,Result.andThen_ok,Sem.run_pure];refine⟨b,by rw [mO];rfl,?_⟩;simp;subst hA;exact hs.elim;subst hA;exact hs.elim;subst hA;exact hs.elim;subst hA;exact hs.elim;rename_i m e hu;exact Tm S hd aY hu hA hs;subst hA;exact hs.elim
theorem WW{o:Oper}{x:Operand}{k:Nat}{A:aC}(S:bU P nt B w0 h0 g σ a w)(hd:dH nt o.dst=true)(aY:o.op = .extract x k)
    (hA:act P Γ o (fU σ.env) (lk σ.ax)=A) (hs:A.safe):jr P nt B w0 h0 r n i o A σ a w Q:=by
  simp only[act,aEx,aY]at hA;split at hA;rename_i ds hx;have h1:=S.ev x;have h2:=S.evLab x;rw[hx]at h1 h2;obtain⟨vs,hv,hr⟩:=h1;split at hA;rename_i d gG;subst hA;obtain⟨v,BL,hdv⟩:=hr.get k d gG;refine dK S hd (by simp[aY]) (d:=.one d) (v:=v) (fp:=[]) rfl ?_ hdv (λL hL=>h2 L ?_);simp only [execOp,aY,Sem.run_bind,hv,Instr.extract];have:vs.toArray[k]? = some v:=by simpa using BL
  rw[this];simp;exact mg.2 ⟨d,KP gG,hL⟩;subst hA;exact hs.elim;subst hA;exact hs.elim
theorem fb{o:Oper}{b:Builtin}{args:Array Operand}{ts:Array TypeId}(aY:o.op = .call {callee := .builtin b,args,argTypes:=ts}){v:Value}{w':World}
    (h:(builtin b ts o.type (args.map fun | .const _=>true|_=>false) (args.map a.eval)).run P w=.ok (.value v) w'):(execOp a.eval o).run P w=.ok (.value v) w':=by
  simp only[execOp,aY,resolve,Sem.run_bind,Sem.run_pure,Result.andThen_ok,invoke];exact h
theorem zo3{o:Oper}{args:Array Operand}{ts:Array TypeId}{A:aC}(S:bU P nt B w0 h0 g σ a w)(hd:dH nt o.dst=true)(aY:o.op = .call {callee := .builtin .len,args,argTypes:=ts})
    (hA:act P Γ o (fU σ.env) (lk σ.ax)=A) (hs:A.safe):jr P nt B w0 h0 r n i o A σ a w Q:=by
  simp only[act,aLn,aY]at hA;split at hA;rename_i x t gJ hts;have ha:args = #[x]:=by rw[<- qdp (xs:=args),gJ]
  have ht:ts = #[t]:=by rw[<- qdp (xs:=ts),hts]
  subst ha ht;split at hA;rename_i e hu;have fin:∀(m:Nat)(ad:Option Addr)(cap:Nat)(fp:List (Nat×Bool))(A:aC),a.eval x=.slice ad m cap->oN A i o.dst σ (σ.upd i o.dst fp (.int m) [] [])->jr P nt B w0 h0 r n i o A σ a w Q:=by
    intro m ad cap fp A hv hA;refine dK S hd (by simp[aY]) (d:=.int m) (v:=.int .i64 m) (fp:=fp) hA (fb aY ?_) (.int _ _) (kN _);simp only[builtin,Sem.run_bind,Builtin.len_];simp[hv,run_underlying hu,goInt]
  split at hA
  · rename_i m s get hx;subst hA;have h1:=jI S hx;generalize hv:a.eval x=v at h1;cases h1 with|sl0=>exact fin 0 _ _ [] _ hv rfl|sle=>exact fin 0 _ _ [] _ hv rfl|sl=>exact fin m _ _ [] _ hv rfl
  rename_i hx;subst hA;have h1:=jI S hx;generalize hv:a.eval x=v at h1;cases h1;exact fin 0 _ _ [] _ hv rfl;rename_i L hx;obtain⟨h1,_⟩:=iQ S hx;split at hA;rename_i e' s b m get hL;subst hA;obtain⟨_,_,xs,hxs,_⟩:=S.obj L _ hL;rcases hxs.2 with⟨h5,h6⟩|⟨k,cap,cur,h5,_⟩
  subst h6;exact fin 0 _ _ _ _ (h1.1.trans h5) rfl;exact fin m _ _ _ _ (h1.1.trans h5) rfl
  · rename_i s m get hL;subst hA;have h2:=(S.obj L _ hL).1;generalize hv:g.sv L=v at h2;cases h2 with|sl0=>exact fin 0 _ _ _ _ (h1.1.trans hv) rfl|sle=>exact fin 0 _ _ _ _ (h1.1.trans hv) rfl|sl=>exact fin m _ _ _ _ (h1.1.trans hv) rfl
  rename_i te bb e' s b m ln get hL;subst hA;obtain⟨_,_,_,hxs,_,_⟩:=S.obj L _ hL;rcases hxs.2 with⟨h5,h6⟩|⟨k,cap,cur,h5,_⟩
  subst h6;exact fin 0 _ _ _ _ (h1.1.trans h5) rfl;exact fin m _ _ _ _ (h1.1.trans h5) rfl;subst hA;exact hs.elim;subst hA;exact hs.elim;rename_i kt vt hu
  have WX:∀(m:Nat)(b:Nat)(es:Array MapEntry)(clock:Nat)(q:MQ)(F:List Int->Option (List Int))(fp:List (Nat×Bool))(A:aC),a.eval x=.map (some b)->w.heap[b]? = some (.map es clock)->moE q m F es clock ->
      oN A i o.dst σ (σ.upd i o.dst fp (.int m) [] [])->jr P nt B w0 h0 r n i o A σ a w Q:=by
    intro m b es clock q F fp A hv hh hm hA;obtain⟨en,hen⟩:=hm;have jL:es.size=m:=by
      have:=jZ List.length hen.ents;simp only[VM,qjg]at this;rw[this,hen.size]
    refine dK S hd (by simp[aY]) (d:=.int m) (v:=.int .i64 m) (fp:=fp) hA (fb aY ?_) (.int _ _) (kN _);simp only[builtin,Sem.run_bind,Builtin.len_];simp[hv,run_underlying hu,goInt,MapKept.run_getObj_map hh,jL]
  split at hA;rename_i L hx;obtain⟨h1,_⟩:=iQ S hx;split at hA;rename_i kt' vt' q m F hL;subst hA;obtain⟨es,clock,hh,_,hm⟩:=S.obj L _ hL;exact WX m _ es clock q F _ _ h1 hh hm rfl;subst hA;exact hs.elim;subst hA;exact hs.elim;subst hA;exact hs.elim;subst hA;exact hs.elim
theorem LW{args:Array Operand}{ev:Operand->DV}{p q:DV}(h:args.toList.map ev=[p,q]):∃x y,args = #[x,y]/\ev x=p/\ev y=q:=by
 match hl:args.toList,h with
 | [x,y],h =>
  simp at h;exact⟨x,y,by rw[<- qdp (xs:=args),hl],h.1,h.2⟩
 | [],h=>simp at h
 | [_],h=>simp at h
 | _::_::_::_,h=>simp at h
theorem zo4{o:Oper}{args:Array Operand}{ts:Array TypeId}{A:aC}(S:bU P nt B w0 h0 g σ a w)(hd:dH nt o.dst=true)(aY:o.op = .call {callee := .builtin .max,args,argTypes:=ts})
    (hA:act P Γ o (fU σ.env) (lk σ.ax)=A) (hs:A.safe):jr P nt B w0 h0 r n i o A σ a w Q:=by
  simp only[act,aMx,aY]at hA;split at hA;rename_i k p k' q gJ;subst hA;obtain⟨x,y,rfl,hx,hy⟩:=LW gJ;have h1:=kF S hx;have h2:=kF S hy;refine dK S hd (by simp[aY]) (d:=.p (.int k (if q>p then q else p))) (v:=.int k (if q>p then q else p)) (fp:=[]) rfl (fb aY ?_) (.int _ _) (kN _);simp[builtin,Builtin.max_,h1,h2,Builtin.max2];subst hA;exact hs.elim
theorem zo5{o:Oper}{args:Array Operand}{ts:Array TypeId}{A:aC}(S:bU P nt B w0 h0 g σ a w)(hd:dH nt o.dst=true)(aY:o.op = .call {callee := .builtin .min,args,argTypes:=ts})
    (hA:act P Γ o (fU σ.env) (lk σ.ax)=A) (hs:A.safe):jr P nt B w0 h0 r n i o A σ a w Q:=by
  simp only[act,aMi,aY]at hA;split at hA;rename_i k p k' q gJ;subst hA;obtain⟨x,y,rfl,hx,hy⟩:=LW gJ;have h1:=kF S hx;have h2:=kF S hy;refine dK S hd (by simp[aY]) (d:=.p (.int k (if q<p then q else p))) (v:=.int k (if q<p then q else p)) (fp:=[]) rfl (fb aY ?_) (.int _ _) (kN _);simp[builtin,Builtin.min_,h1,h2,Builtin.min2];subst hA;exact hs.elim
end
end Go.Pm
namespace Go.Pm
variable [aH]
open Go.RowKit (Below)
section place
variable{P:Program}
def Ro{α:Type}(P:Program)(s:Sem α):Prop:=∀w a w',s.run P w=.ok a w'->w'.heap=w.heap
theorem bind_ok{α β:Type}{x:Sem α}{f:α->Sem β}{w w':World}{b:β}(h:(x >>= f).run P w=.ok b w'):∃a w1,x.run P w=.ok a w1/\(f a).run P w1=.ok b w':=by
 rw[Sem.run_bind]at h;cases hx:x.run P w with|ok a w1=>rw[hx]at h;exact⟨a,w1,rfl,h⟩|halt e w1=>rw[hx]at h;cases h
theorem Ro.bind{α β:Type}{x:Sem α}{f:α->Sem β}(hx:Ro P x)(hf:∀a,Ro P (f a)):Ro P (x >>= f):=by
 intro w b w' h;obtain⟨a,w1,h1,h2⟩:=bind_ok h;exact(hf a w1 b w' h2).trans (hx w a w1 h1)
theorem Ro.pure{α:Type}(a:α):Ro P (Pure.pure a:Sem α):=by
 intro w b w' h;simp at h;rw[h.2]
theorem Ro.halt{α:Type}(e:Halt):Ro P (.halt e:Sem α):=by
 intro w b w' h;simp at h
theorem Ro.ite{α:Type}{c:Prop}[Decidable c]{x y:Sem α}(hx:Ro P x)(hy:Ro P y):Ro P (if c then x else y):=by
 split;exact hx;exact hy
theorem Ro.load(a:Addr)(m:Mode):Ro P (Go.load a m):=by
 intro w b w' h;rw[run_load]at h;split at h;simp at h;rw[h.2];split at h;simp at h;rw[h.2];cases h
theorem Ro.loadCellsFrom(a:Addr):∀(n i:Nat)(acc:Array Value),Ro P (loadCellsFrom a i n acc)|0,_,acc=>Ro.pure acc|n+1,i,acc=>(Ro.load _ _).bind λv=>Ro.loadCellsFrom a n (i+1) (acc.push v)
theorem Ro.firstCells(s n:Nat)(v:Value):Ro P (Builtin.firstCells s n v):=by
 unfold Builtin.firstCells;split;exact Ro.loadCellsFrom _ _ _ _;exact Ro.pure _;exact Ro.pure _;exact Ro.halt _
theorem Ro.typeInfo(t:TypeId):Ro P (typeInfo t):=by
 intro w b w' h;simp only[Go.typeInfo,Sem.run_bind,run_program,Result.andThen_ok]at h;split at h;simp at h;rw[h.2];simp at h
theorem Ro.zeroValue(t:TypeId):Ro P (zeroValue t):=by
 refine(Ro.typeInfo t).bind λ_=>?_;split;exact Ro.pure _;exact Ro.halt _
theorem Ro.choose(q:Question):Ro P (Go.choose q):=by
 intro w b w' h;rw[run_choose]at h;split at h;simp at h;rw[h.2];simp at h;rw[<- h.2];rfl
theorem Ro.askRoom(m:Nat):Ro P (askRoom m):=by
 intro w b w' h;simp at h;rw[h]
theorem Ro.program:Ro P program:=by
 intro w b w' h;simp at h;rw[h.2]
theorem Ro.underlying(t:TypeId):Ro P (underlying t):=by
 refine Ro.program.bind λ_=>?_;split;exact Ro.pure _;exact Ro.halt _
theorem Ro.sizeOf(t:TypeId):Ro P (sizeOf t):=(Ro.typeInfo t).bind λ_=>Ro.pure _
theorem Ro.stuck{α:Type}(s:String):Ro P (stuck s:Sem α):=Ro.halt _
theorem Ro.unsupported{α:Type}(s:Unsupported):Ro P (unsupported s:Sem α):=Ro.halt _
theorem Ro.asIntOf(v:Value):Ro P (asIntOf v):=by
 unfold Go.asIntOf;split;exact Ro.pure _;exact Ro.unsupported _;exact Ro.stuck _
theorem Ro.asInt(v:Value):Ro P (asInt v):=(Ro.asIntOf v).bind λ_=>Ro.pure _
theorem Ro.error{α:Type}(m:String):Ro P (runtimePanic (.error m):Sem α):=by
 refine Ro.program.bind λ_=>?_;exact Ro.halt _
theorem Ro.mark(m:Mark):Ro P (mark m):=by
 intro w b w' h;simp at h;rw[h]
theorem Ro.shape(k:Nat):Ro P (shape k):=by
 intro w b w' h;simp at h;rw[h.2]
theorem Ro.frozen(k:Addr):Ro P (frozen k):=by
 intro w b w' h;simp at h;rw[h.2]
theorem Ro.holdsCells(k:Addr)(m:Nat):Ro P (Builtin.holdsCells k m):=by
 refine(Ro.shape _).bind λ_=>?_;split;exact Ro.pure _;exact Ro.pure _
theorem Ro.mayShare(size zEq m:Nat)(base:Option Addr)(x:Value):Ro P (Builtin.mayShare size zEq m base x):=by
 unfold Builtin.mayShare
 repeat' first
  | exact Ro.holdsCells _ _
  | exact Ro.frozen _
  | exact Ro.pure _
  | refine Ro.ite ?_ ?_
  | refine Ro.bind ?_ (λ_=>?_)
  | split
def PL(P:Program)(base:Option Nat)(s:Sem Value):Prop:=∀w a w',s.run P w=.ok a w'->a.ownBlock=base\/a.ownBlock=some w.heap.size
theorem PL.bind{α:Type}{base:Option Nat}{x:Sem α}{f:α->Sem Value}(hx:Ro P x)(hf:∀a,PL P base (f a)):PL P base (x >>= f):=by
 intro w b w' h;obtain⟨a,w1,h1,h2⟩:=bind_ok h;have:=hf a w1 b w' h2;rwa[hx w a w1 h1]at this
theorem PL.ite{base:Option Nat}{c:Prop}[Decidable c]{x y:Sem Value}(hx:PL P base x)(hy:PL P base y):PL P base (if c then x else y):=by
 split;exact hx;exact hy
theorem PL.halt{base:Option Nat}(e:Halt):PL P base (.halt e):=by
 intro w b w' h;simp at h
theorem PL.pure{base:Option Nat}{v:Value}(h:v.ownBlock=base):PL P base (Pure.pure v):=by
 intro w b w' h';simp at h';rw[<- h'.1];exact .inl h
theorem PL.then{α:Type}{base:Option Nat}{x:Sem α}{v:Value}(h:v.ownBlock=base):PL P base (x >>= λ_=>Pure.pure v):=by
 intro w b w' h';obtain⟨a,w1,_,h2⟩:=bind_ok h';simp at h2;rw[<- h2.1];exact .inl h
theorem PL.newRow{base:Option Nat}(e:TypeId)(C:Array Value)(m c:Nat):PL P base (newRow e C >>= λa=>Pure.pure (Value.slice (some a) m c)):=by
 intro w b w' h;simp[Go.newRow]at h;rw[<- h.1];exact .inr rfl
theorem DN{t ty:TypeId}{base ad:Option Addr}{zEq z0S m c:Nat}:PL P (base.map (·.block)) (Builtin.append_ #[t,t] ty #[.slice base zEq z0S,.slice ad m c]):=by
 unfold Builtin.append_;simp only[qjZ,qdG,dqN]
 repeat' first
  | exact PL.newRow _ _ _ _
  | exact PL.pure (by first|rfl|(cases base<;>rfl))
  | exact PL.then (by first|rfl|(cases base<;>rfl))
  | exact PL.halt _
  | exact Ro.underlying _
  | exact Ro.sizeOf _
  | exact Ro.typeInfo _
  | exact Ro.zeroValue _
  | exact Ro.firstCells _ _ _
  | exact Ro.choose _
  | exact Ro.askRoom _
  | exact Ro.asInt _
  | exact Ro.error _
  | exact Ro.unsupported _
  | exact Ro.stuck _
  | exact Ro.pure _
  | exact Ro.mark _
  | exact Ro.mayShare _ _ _ _ _
  | refine PL.ite ?_ ?_
  | refine Ro.ite ?_ ?_
  | refine PL.bind ?_ (λ_=>?_)
  | refine Ro.bind ?_ (λ_=>?_)
  | split
theorem JC{w:World}{at_:Addr}{u:TypeId}{k:Addr}{v:Value}{b:Bool}{r:World×List Addr}(h:w.viewStore P at_ u k v b=.ok r):r.1.drawn=w.drawn:=by
 unfold World.viewStore at h;simp only[bind,Except.bind,pure,Except.pure]at h
 repeat' first
  | (cases h;done)
  | (simp only[Except.ok.injEq]at h;rw[<- h];done)
  | split at h
theorem LX{w:World}{a:Addr}{v:Value}{b:Bool}{r:World×List Addr}(h:w.farStore P a v b=.ok r):r.1.drawn=w.drawn:=by
 unfold World.farStore at h;split at h;split at h;rename_i e;simp only[Except.ok.injEq]at h;rw[<- h];exact JC e;cases h;cases h
theorem GH{α:Type}:∀(q:Ask α)(w:World),w.drawn≤(w.ask q).2.drawn
  | .done a,w=>by simp[World.ask]
  | .ask zEI range k,w=>by
    simp only[World.ask];split;exact GH _ _;exact Gj (Nat.le_succ w.drawn) (GH (k _) {w with drawn:=w.drawn+1})
theorem zfi(w:World)(c:Sys):w.drawn<=(w.sys c).2.drawn:=by
 have h:=GH (Kernel.perform c w.os) w;unfold World.sys;split;exact jP _;rename_i e;rw[e]at h;exact h
theorem gW{α:Type}:∀(s:Sem α)(w:World)(x:α)(w':World),s.run P w = .ok x w'→w.drawn≤w'.drawn
  | .pure a,w,x,w',h=>by simp only[Sem.run,Result.ok.injEq]at h;rw[h.2];exact jP _
  | .load m a k,w,x,w',h=>by
    simp only[Sem.run]at h;split at h;exact gW _ _ _ _ h;split at h;exact gW _ _ _ _ h;cases h
  | .store m a v k,w,x,w',h=>by
    have fin:∀w1,w1.drawn=w.drawn->k.run P w1=.ok x w'->w.drawn<=w'.drawn:=λw1 e h=>by rw[<- e];exact gW _ _ _ _ h
    cases v with
    | agg cs=>simp only[Sem.run]at h;cases h
    | tuple cs=>simp only[Sem.run]at h;cases h
    | _ =>
      simp only[Sem.run]at h;split at h;split at h;cases h;refine fin _ ?_ h;rfl;split at h;rename_i e;refine fin _ ?_ h;exact LX e;cases h
  | .new o k,w,x,w',h=>by simp only[Sem.run]at h;have:=gW _ _ _ _ h;exact this
  | .shape r k,w,x,w',h=>by simp only[Sem.run]at h;exact gW _ _ _ _ h
  | .freeze a n k,w,x,w',h=>by
    simp only[Sem.run]at h;have:=gW _ _ _ _ h;have e:(w.freeze a n).drawn=w.drawn:=by unfold World.freeze;split<;>rfl
    rwa[e]at this
  | .frozen a k,w,x,w',h=>by simp only[Sem.run]at h;exact gW _ _ _ _ h
  | .getObj r k,w,x,w',h=>by
    simp only[Sem.run]at h;split at h;cases h;exact gW _ _ _ _ h;cases h
  | .setObj r o k,w,x,w',h=>by
    simp only[Sem.run]at h;split at h;cases h;have:=gW _ _ _ _ h;exact this;cases h
  | .choose q k,w,x,w',h=>by
    simp only[Sem.run]at h;split at h;exact gW _ _ _ _ h;have:=gW _ _ _ _ h;exact Gj (Nat.le_succ _) this
  | .sys c k,w,x,w',h=>by
    simp only[Sem.run]at h;have:=gW _ _ _ _ h;exact Gj (zfi w c) this
  | .program k,w,x,w',h=>by simp only[Sem.run]at h;exact gW _ _ _ _ h
  | .mark m k,w,x,w',h=>by simp only[Sem.run]at h;exact gW _ _ _ _ h
  | .halt e,w,x,w',h=>by simp only[Sem.run]at h;cases h
end place
end Go.Pm
namespace Go.Pm
variable [aH]
open Go.RowKit (Below)
section
variable{P:Program}{Γ:bI}{nt B:Nat}{w0:World}{h0:Fz}{g:Gh}{σ:St}{a:Act}{w:World}{r:Option Nat}{n i:Nat}{Q:Exit->Act->World->Prop}
theorem DR{w w':World}{b:Nat}(hB:B≤b)(h1:w'.heap.size=w.heap.size)(h2:∀k,k≠b→w'.heap[k]? = w.heap[k]?)(h3:w'.os=w.os)(h4:w'.tape=w.tape)(h5:w'.output=w.output)(h6:w'.drawn=w.drawn) :
  LD B w w':=⟨⟨h3,h4,h5,by rw[h1];exact jP _,λk hk=>h2 k omY⟩,by rw[h6];exact jP _⟩
theorem wY{t:TypeId}{m b off:Nat}{C:Array Value}{ty:TypeId}{v:Value}(hs:qK P t=some m)(hm:v.cells.size=m)(hb:w.heap[b]? = some (.cells C ty (0,0)))(hle:off+m≤C.size)
    (h1:∀u∈v.cells.toList,u.oneCell'=true):∃w',(storeVar t ⟨b,off,none⟩ v).run P w=.ok () w'/\w'.heap[b]? = some (.cells (spl C.toList off v.cells.toList).toArray ty (0,0)) /\
      w'.heap.size=w.heap.size/\(∀k,k≠b->w'.heap[k]? = w.heap[k]?)/\w'.os=w.os/\w'.tape=w.tape/\w'.output=w.output/\w'.drawn=w.drawn:=by
  obtain⟨w',hr,rest⟩:=yX (P:=P) v.cells.toList off C w hb (by simpa [hm]using hle) h1 off 0 omY;refine⟨w',?_,rest⟩;simp only[storeVar,Sem.run_bind,run_sizeOf hs,Result.andThen_ok,hm,ne_eq,not_true_eq_false,qje];exact hr
theorem cells_one{d:D1}{v:Value}(h:BB g d v)(ho:d.cells.all Dv=true):∀u∈v.cells.toList,u.oneCell'=true:=by
 intro u hu;have hr:=vN h ho;obtain⟨j,hj⟩:=dq0 hu;obtain⟨c,hc,hcu⟩:=hr.get' j u hj;exact zcF hcu (yL.1 ho c (KP hc))
theorem oP:∀{cs:List Cl}{l:List PV},kC cs=some l→cs=l.map .p
  | [],l,h=>by simp[kC]at h;subst h;rfl
  | .p v::r,l,h=>by
    simp only[kC]at h;split at h;rename_i l' hl;simp only[bM]at h;subst h;rw[oP hl];rfl;cases h
  | .ptr _ _::_,l,h=>by simp[kC]at h
  | .vptr _ _ _ _::_,l,h=>by simp[kC]at h
  | .vec _::_,l,h=>by simp[kC]at h
  | .undef::_,l,h=>by simp[kC]at h
  | .junk::_,l,h=>by simp[kC]at h
  | .dead _::_,l,h=>by simp[kC]at h
theorem zo6(l:List PV):(l.map Cl.p).all Dv=true:=by
 induction l with|nil=>rfl|cons v r ih=>simp[Dv,ih]
theorem zo7{B e s len:Nat}{v0:Value}{get:Nat→List PV}{k ii kk:Nat}{C:Array Value}{w':World}{l:List PV}{us xs:List Value}
    (hx:w.ownsRow B e s v0 len xs) (hr:∀i,i<len->RL (Rep g.h) (get i) ((xs.drop (i*s)).take s)) (bZ:v0.ownBlock=some k) (hi:ii<len) (hk:kk+l.length<=s) (hC:w.heap[k]? = some (.cells C e (0,0)))
    (ZZ:w'.heap[k]? = some (.cells (spl C.toList (ii*s+kk) us).toArray e (0,0))) (hl:RL (Rep g.h) l us) :
    ∃xs:List Value,w'.ownsRow B e s v0 len xs/\∀i,i<len->RL (Rep g.h) (Dw ii kk get l i) ((xs.drop (i*s)).take s):=by
  rcases hx.2 with⟨h1,rfl⟩|⟨k',cap,cur,h1,hB,hg,hn,kK,jL,htk⟩
  exact absurd hi omY;rw [h1]at bZ;simp only [Value.ownBlock,bM]at bZ;subst bZ;rw[hC]at hg;simp only[bM,Obj.cells.injEq]at hg;obtain⟨rfl,_⟩:=hg;have hlen:=hl.length;have hii:ii*s+s<=len*s:=by have:=SI s (qdt hi);rw[VQ]at this;exact this
  have zvg:len*s<=cap*s:=SI s hn;have hCs:C.toList.length=cap*s:=by simpa using jL
  refine⟨(spl C.toList (ii*s+kk) us).take (len*s),⟨?_,.inr ⟨k',cap,_,h1,hB,ZZ,hn,kK,?_,rfl⟩⟩,?_⟩;rw[qdC,lV,hCs];omega;simp[lV,jL];intro j hj;have hjs:j*s+s<=len*s:=by have:=SI s (qdt hj);rw[VQ]at this;exact this
  have hgl:(get j).length=s:=by
    rw[(hr j hj).length];simp only[qdC,VO,hx.1];omega
  have hsl:(Dw ii kk get l j).length=s:=by unfold Dw;split<;>simp[lV,hgl]
  refine RL.of_get ?_ ?_;rw[hsl];simp only[qdC,VO,lV,hCs];omega;intro q x v hq hvq;have hqs:q<s:=by have:=(BP.1 hq).1;omega
  rw[JR,eU hqs,qdl,JR,eU omY,DJ _ _ _ _ (by rw[hCs];omega)]at hvq;have old:∀y,(get j)[q]? = some y->∃v,C.toList[j*s+q]? = some v/\Rep g.h y v:=by
    intro y hy;obtain⟨v,hv,Sz⟩:=(hr j hj).get q y hy;refine⟨v,?_,Sz⟩;rw[JR,eU hqs,qdl,<- htk,JR,eU omY]at hv;exact hv
  unfold Dw at hq;split at hq;rename_i hji;have hji:=lu hji;subst hji;rw[DJ _ _ _ _ (by rw[hgl];omega)]at hq;by_cases V4:kk<=q/\q<kk+l.length;rw [eU V4]at hq;rw[eU (by rw[<- hlen];omega),show j*s+q-(j*s+kk)=q-kk by omega]at hvq;obtain⟨u,hu,ZY⟩:=hl.get _ _ hq;rw[hu]at hvq;simp only[bM]at hvq;rw[<- hvq];exact ZY;rw [eY V4]at hq;rw[eY (by rw[<- hlen];omega)]at hvq;obtain⟨u,hu,ZY⟩:=old x hq;rw[hu]at hvq;simp only[bM]at hvq;rw[<- hvq];exact ZY;rename_i hji;have hji:=qdA hji;have F9:¬(ii*s+kk<=j*s+q/\j*s+q<ii*s+kk+us.length):=by
    rw[<- hlen];rcases Nat.lt_or_gt_of_ne hji with h|h
    have:=SI s (qdt h);rw[VQ]at this;omega;have:=SI s (qdt h);rw[VQ]at this;omega
  rw[eY F9]at hvq;obtain⟨u,hu,ZY⟩:=old x hq;rw[hu]at hvq;simp only[bM]at hvq;rw[<- hvq];exact ZY
theorem zo8{B L e s b len:Nat}{get:Nat→List PV}{k ii kk:Nat}{C:Array Value}{w':World}{l:List PV}{us:List Value}
    (hv:DI P g w B L e s b len get) (bZ:(g.sv L).ownBlock=some k) (hi:ii<len) (hk:kk+l.length<=s) (hC:w.heap[k]? = some (.cells C e (0,0)))
    (ZZ:w'.heap[k]? = some (.cells (spl C.toList (ii*s+kk) us).toArray e (0,0))) (hl:RL (Rep g.h) l us) (hu:uC (Dw ii kk get l)):DI P g w' B L e s b len (Dw ii kk get l):=by
  obtain⟨hs,nN,xs,hx,hr⟩:=hv;exact⟨⟨hu,hs.2⟩,nN,zo7 hx hr bZ hi hk hC ZZ hl⟩
theorem zcO{ii:Nat}{get:Nat->Nat->List PV}{lT:Nat->List PV}(h:Unv get)(h2:uC lT)(hs:smL (get 0 0) (lT 0)=true):Unv (pO ii lT get):=by
 have h3:∀i j k,RS (get i j) (lT k):=λi j k=>((h i j 0 0).trans (Lj hs (h 0 0 0 0) (h2 0 0))).trans (h2 0 k);intro i j k l;show RS ((match Nat.beq i ii with|true=>lT|false=>get i) j) ((match Nat.beq k ii with|true=>lT|false=>get k) l);cases Nat.beq i ii<;>cases Nat.beq k ii;exact h _ _ _ _;exact h3 _ _ _;exact(h3 _ _ _).symm;exact h2 _ _
theorem LY:∀L∈bY .junk,∃o,lk σ.ax L=some o:=λL hL=>by simp[bY,dC,bg]at hL
def Gm(g g':Gh):Prop:=g'.h=g.h/\g'.bk=g.bk/\g'.sv=g.sv/\∀L i,(∃b,g.iv L i=.map (some b))->g'.iv L i=g.iv L i
theorem zir{g g':Gh}(H:Gm g g'){c:Cl}{x:Value}(h:jk g c x):jk g' c x:=by
 obtain⟨h1,h2,h3,h4⟩:=H;cases c with
 | p v=>simp only[jk]at h ⊢;rw[h1];exact h
 | ptr L off=>simp only[jk]at h ⊢;rw[h2];exact h
 | vptr L s i k=>simp only[jk]at h ⊢;rw[h3];exact h
 | vec L=>simp only[jk]at h ⊢;rw[h3];exact h
 | mo L=>simp only[jk]at h ⊢;rw[h3];exact h
 | clo f caps=>obtain⟨cv,e,hr⟩:=h;exact⟨cv,e,rE (λ_ _ hp=>by rw[h1];exact hp) (λL _=>by rw[h2]) hr⟩
 | undef=>exact h
 | junk=>trivial
 | dead L=>trivial
theorem zvM{g g':Gh}(H:Gm g g'){cs:List Cl}{vs:List Value}(h:RL (jk g) cs vs):RL (jk g') cs vs:=h.mono λ_ _=>zir H
theorem zis{g g':Gh}(H:Gm g g'){d:D1}{x:Value}(h:BB g d x):BB g' d x:=by
 cases d with
 | c y=>exact zir H h
 | agg cs=>obtain⟨vs,rfl,hr⟩:=h;exact⟨vs,rfl,zvM H hr⟩
theorem zyJ{g g':Gh}(H:Gm g g'){d:DV}{x:Value}(h:rW g d x):rW g' d x:=by
 cases d with
 | one y=>exact zis H h
 | tup ds=>obtain⟨vs,rfl,hr⟩:=h;exact⟨vs,rfl,hr.mono λ_ _=>zis H⟩
theorem bU.setVec(S:bU P nt B w0 h0 g σ a w){L M te bb e s Qh len m ii:Nat}{ln:Nat→Nat}{get:Nat→Nat→List PV}{lT:Nat→List PV}(hL:lk σ.ax L=some (.vt te bb e s Qh len ln get ii))
    (hM:lk σ.ax M=some (.vec e s Qh m lT)) (jb:L≠M) (hi:ii<len) (hm:0<m) (Js:Unv (pO ii lT get)) {k:Nat} {C:Array Value} {w':World} (bZ:(g.sv L).ownBlock=some k) (hC:w.heap[k]? = some (.cells C te (0,0)))
    (ZZ:w'.heap[k]? = some (.cells (C.setIfInBounds ii (g.sv M)) te (0,0))) (ry:∀b,b≠k->w'.heap[b]? = w.heap[b]?) (hb:LD B w w') :
    bU P nt B w0 h0 ⟨g.h,g.bk,g.sv,λX i=>if X=L/\i=ii then g.sv M else g.iv X i⟩ {σ with ax:=(L,.vv te bb e s Qh len (pO ii m ln) (pO ii lT get))::(M,.gone)::σ.ax} a w':=by
  have oL:=S.obj L _ hL;obtain⟨iL,zR6,zG2,zn6,_,wR,Iy,JP⟩:=oL;obtain⟨_,_,xsM,hxM,hrM⟩:=S.obj M _ hM;obtain⟨kM,z4L,hvM⟩:∃kM cap,g.sv M=.slice (some ⟨kM,0,none⟩) m cap:=by
    rcases hxM.2 with⟨_,h2⟩|⟨k2,cap,_,h1,_⟩
    omega;exact⟨k2,cap,h1⟩
  have hoM:(g.sv M).ownBlock=some kM:=by rw[hvM];rfl
  have H:Gm g ⟨g.h,g.bk,g.sv,λX i=>if X=L/\i=ii then g.sv M else g.iv X i⟩:=by
    refine⟨rfl,rfl,rfl,λX i hx=>?_⟩;show(if X=L/\i=ii then _ else _)=_;rw[eY];rintro⟨rfl,rfl⟩;obtain⟨b,hx⟩:=hx;exact wR b hx
  have hkB:gY g L (.vt te bb e s Qh len ln get ii) k:=.inl bZ;have hMB:gY g M (.vec e s Qh m lT) kM:=hoM
  have kJ:∀X o,lk ((L,AO.vv te bb e s Qh len (pO ii m ln) (pO ii lT get))::(M,.gone)::σ.ax) X=some o ->
      (X=L/\o=.vv te bb e s Qh len (pO ii m ln) (pO ii lT get))\/(X=M/\o=.gone)\/(X≠L/\X≠M/\lk σ.ax X=some o):=by
    intro X o h;rw[aV]at h;split at h;rename_i e;simp at h;exact .inl ⟨e.symm,h.symm⟩;rename_i e;rw[aV]at h;split at h;rename_i e2;simp at h;exact .inr (.inl ⟨e2.symm,h.symm⟩);rename_i e2;exact .inr (.inr ⟨λx=>e x.symm,λx=>e2 x.symm,h⟩)
  have yJ:∀X o,lk σ.ax X=some o->∃o',lk ((L,AO.vv te bb e s Qh len (pO ii m ln) (pO ii lT get))::(M,.gone)::σ.ax) X=some o':=by
    intro X o h;rw[aV];split;exact⟨_,rfl⟩;rw [aV];split;exact⟨_,rfl⟩;exact⟨o,h⟩
  have zR8:∀X i,X≠L->(if X=L/\i=ii then g.sv M else g.iv X i)=g.iv X i:=λX i hx=>eY λe=>hx e.1;have zit:∀i,i≠ii->(if L=L/\i=ii then g.sv M else g.iv L i)=g.iv L i:=λi hx=>eY λe=>hx e.2;have fG:∀X,X≠L->jd g ⟨g.h,g.bk,g.sv,λX i=>if X=L/\i=ii then g.sv M else g.iv X i⟩ X:=λX hx=>⟨rfl,rfl,funext λi=>zR8 X i hx⟩;have hMk:kM≠k:=λe=>jb (S.sep L _ k M _ hL hM hkB (by rw[<- e];exact hMB));have ziu:∀b,gY ⟨g.h,g.bk,g.sv,λX i=>if X=L/\i=ii then g.sv M else g.iv X i⟩ L (.vv te bb e s Qh len (pO ii m ln) (pO ii lT get)) b->gY g L (.vt te bb e s Qh len ln get ii) b\/b=kM:=by
    rintro b (mP|⟨i,jY,mP⟩);exact .inl (.inl mP);by_cases e:i=ii;subst e;have mP:(if L=L/\i=i then g.sv M else g.iv L i).ownBlock=some b:=mP;rw[eU ⟨rfl,rfl⟩,hoM]at mP;simp only[bM]at mP;exact .inr mP.symm;have mP:(if L=L∧i=ii then g.sv M else g.iv L i).ownBlock=some b:=mP;rw[zit i e]at mP;exact .inl (.inr ⟨i,jY,e,mP⟩)
  refine⟨S.dfr,S.size,λt d h=>zyJ H (S.env t d h),?_,?_,?_,?_,S.le0,S.hn,S.below.trans (.of hb),Gj S.bs hb.size,λt d h X hX=>?_,?_⟩;intro X o ho;rcases kJ X o ho with⟨rfl,rfl⟩|⟨rfl,rfl⟩|⟨n1,n2,ho⟩
  refine⟨⟨Js,iL.2⟩,zR6,zG2,?_,?_,?_⟩;refine⟨by simp,?_⟩;rcases zn6.2 with⟨h1,h2⟩|⟨k',cap,cur,h1,hB,hg,hn,kK,jL,htk⟩
  omega;rw [h1]at bZ;simp only [Value.ownBlock,bM]at bZ;subst bZ;rw[hC]at hg;simp only[bM,Obj.cells.injEq]at hg;obtain⟨rfl,_⟩:=hg;refine .inr ⟨k',cap,_,h1,hB,ZZ,hn,kK,by simpa using jL,?_⟩;apply qdd;intro j;have hj:=jZ (λl=>l[j]?) htk;simp only[JR,qde]at hj;simp only[Array.toList_setIfInBounds,JR,qjN,qde];by_cases hjn:j<len*1;have zR9:j<len:=by omega
  rw[eU hjn]at hj ⊢;rw[qjh zR9]at hj ⊢;simp only[Qq]at hj ⊢;by_cases e:ii=j;subst e;rw[eU rfl,eU (by simp;omega)];simp;rw [eY e,hj];simp only[true_and];rw[eY (λx=>e x.symm)];rw[eY hjn,dq2 (by simp;omega)];rfl;intro i jY;by_cases e:i=ii;subst e;have e2:pO i m ln i=m:=by simp[pO]
  have e3:pO i lT get i=lT:=by simp[pO]
  rw[e2,e3];show(if X=X/\i=i then g.sv M else g.iv X i).oneCell'=true/\(m=0->(if X=X/\i=i then g.sv M else g.iv X i)=_)/\∃xs,w'.ownsRow B _ s (if X=X/\i=i then g.sv M else g.iv X i) m xs/\_;rw[eU ⟨rfl,rfl⟩];refine⟨by rw[hvM];rfl,λh=>absurd h omY,xsM,jo hxM λb mP=>ry b λe=>hMk ?_,hrM⟩;rw[hoM]at mP;simp only[bM]at mP;omega;have hbf:Nat.beq i ii=false:=by cases hq:Nat.beq i ii with|true=>exact absurd (lu hq) e|false=>rfl
  have e2:pO ii m ln i=ln i:=by simp only[pO,hbf]
  have e3:pO ii lT get i=get i:=by simp only[pO,hbf]
  rw[e2,e3];show(if X=X/\i=ii then g.sv M else g.iv X i).oneCell'=true/\(ln i=0->(if X=X/\i=ii then g.sv M else g.iv X i)=_)/\∃xs,w'.ownsRow B _ s (if X=X/\i=ii then g.sv M else g.iv X i) (ln i) xs/\_;rw[zit i e];obtain⟨x1,x2,xs,x3,x4⟩:=Iy i jY e;exact⟨x1,x2,xs,jo x3 λb mP=>ry b λe'=>(JP i b jY e mP).1 (by rw[e'];exact bZ),x4⟩;intro i b jY mP;have fresh:∀j,j<len->j≠ii->(g.iv X j).ownBlock≠some kM:=λj hj hji e=>jb (S.sep X _ kM M _ hL hM (.inr ⟨j,hj,hji,e⟩) hMB);by_cases e:i=ii;subst e;have mP:(if X=X/\i=i then g.sv M else g.iv X i).ownBlock=some b:=mP;rw[eU ⟨rfl,rfl⟩,hoM]at mP;simp only[bM]at mP;subst mP;refine⟨λh=>hMk ?_,λj hj hjb=>?_⟩;rw[bZ]at h;simp only[bM]at h;exact h.symm;by_cases e:j=i;exact e.symm;have hjb:(if X=X∧j=i then g.sv M else g.iv X j).ownBlock=_:=hjb;rw[zit j e]at hjb;exact(fresh j hj e hjb).elim;have mP:(if X=X∧i=ii then g.sv M else g.iv X i).ownBlock=some b:=mP;rw[zit i e]at mP;have V7:=mP;refine⟨(JP i b jY e mP).1,λj hj hjb=>?_⟩;have hjb:(if X=X/\j=ii then g.sv M else g.iv X j).ownBlock=_:=hjb;by_cases e2:j=ii;subst e2;rw[eU ⟨rfl,rfl⟩,hoM]at hjb;simp only[bM]at hjb;subst hjb;exact(fresh i jY e V7).elim;rw [zit j e2]at hjb;exact(JP i b jY e mP).2 j hj e2 hjb;trivial
  · cases o with
    | box ty cs =>
      obtain⟨C',hC2,hr⟩:=S.obj X _ ho;refine⟨C',?_,zvM H hr⟩;rw[ry _ λe=>n1 (S.sep X _ k L _ ho hL e hkB)];exact hC2
    | _=>exact jX (S.obj X _ ho) (fG X n1) (λ_ h=>by simp[dS]at h) (λ_ _ h=>h) λb mP=>ry b λe=>n1 (S.sep X _ b L _ ho hL mP (by rw[e];exact hkB))
  intro X o b ho iE;rcases kJ X o ho with⟨rfl,rfl⟩|⟨rfl,rfl⟩|⟨n1,n2,ho⟩
  rcases ziu b iE with h|rfl
  exact S.own _ _ b hL h;exact S.own M _ _ hM hMB;exact iE.elim;rw[gV (fG X n1)]at iE;exact S.own X o b ho iE;intro X o b Y o' ho kV hb1 V7;rcases kJ X o ho with⟨rfl,rfl⟩|⟨rfl,rfl⟩|⟨n1,n2,o9⟩<;>rcases kJ Y o' kV with⟨rfl,rfl⟩|⟨rfl,rfl⟩|⟨n1',n2',nS⟩
  rfl;exact V7.elim;rw [gV (fG Y n1')]at V7;rcases ziu b hb1 with h|rfl
  exact S.sep _ _ b Y _ hL nS h V7;exact(n2' (S.sep M _ _ Y _ hM nS hMB V7).symm).elim;exact hb1.elim;exact hb1.elim;exact hb1.elim;rw [gV (fG X n1)]at hb1;rcases ziu b V7 with h|rfl
  exact S.sep X _ b _ _ o9 hL hb1 h;exact(n2 (S.sep X _ _ M _ o9 hM hb1 hMB)).elim;exact V7.elim;rw [gV (fG X n1)]at hb1;rw[gV (fG Y n1')]at V7;exact S.sep X _ b Y _ o9 nS hb1 V7;exact S.hw.same λb x Gp=>ry b λe=>by subst e;have:=(S.own L _ b hL hkB).2;rw[Gp]at this;cases this
  obtain⟨o,ho⟩:=S.clE t d h X hX;exact yJ X o ho;intro X o ho Y hY;rcases kJ X o ho with⟨rfl,rfl⟩|⟨rfl,rfl⟩|⟨n1,n2,ho⟩
  simp[dS]at hY;simp[dS]at hY;obtain⟨o',kV⟩:=S.clO X o ho Y hY;exact yJ Y o' kV
theorem zfj{o:Oper}{t:TypeId}{x y:Operand}{A:aC}(S:bU P nt B w0 h0 g σ a w)(hd:dH nt o.dst=true)(aY:o.op = .store t x y)
    (hA:act P Γ o (fU σ.env) (lk σ.ax)=A) (hs:A.safe):jr P nt B w0 h0 r n i o A σ a w Q:=by
  simp only[act,aSt,aY]at hA;split at hA;rename_i m L off d jL hx hy;have yP:=(iQ S hx).1;simp only[jk]at yP;have hdR:=S.ev y;have hdL:=S.evLab y;rw[hy]at hdR hdL;split at hA;rename_i ty cells hL;obtain⟨C,hC,hr⟩:=S.obj L _ hL;split at hA;rename_i dm;simp only[fQ,VT]at dm;obtain⟨⟨hm,hle⟩,gp⟩:=dm;have hm:=lu hm;subst hA;have VJ:=vN hdR gp;have Bv:=VJ.length;have oz:=hr.length;have hvm:(a.eval y).cells.size=m:=by rw[<- hm,Bv];simp
  have hCl:cells.length=C.size:=by rw[oz];simp
  obtain⟨w',df,hb,Z4,ry,h5,h6,h7,h8⟩:=wY (P:=P) (m:=m) (off:=off) (v:=a.eval y) jL hvm hC omY (cells_one hdR gp);have jh:=S.own L _ _ hL rfl
  have S' := S.write (o' := .box ty (spl cells off d.cells)) hL (fun b hb => hb) (DR jh.1 Z4 ry h5 h6 h7 h8) (fun b hb => ry b (fun e => hb (by rw [e]; rfl)))
    ⟨_,hb,by simpa using hr.spl VJ off⟩ (λM hM=>by
      rcases zcK off M hM with h|h
      exact S.clO L _ hL M h
      · refine hdL M ?_;cases d with|c z=>simpa [D1.cells,bY,dC]using h|agg cs=>simpa [D1.cells,bY,dC]using h)
  refine JZ (by simp[aY]) (w':=w') ?_ ⟨g,_,rfl,by rw[fZ];exact S'.put hd (d:=.junk) trivial LY _⟩;simp only[execOp,aY,Sem.run_bind,Instr.storeAt,yP,Instr.sureAddr,Sem.run_pure,Result.andThen_ok,df];subst hA;exact hs.elim;subst hA;exact hs.elim;rename_i m L s ii kk d jL hx hy;obtain⟨b,bZ,yP⟩:=(iQ S hx).1;have hdR:=S.ev y;rw[hy]at hdR;split at hA;rename_i e s' Qh len get hL;split at hA;rename_i l hl;split at hA;rename_i dm;simp only[fQ,VT]at dm;obtain⟨⟨⟨Qg,hm⟩,hle⟩,sZ⟩:=dm;have Qg:=lu Qg;have hm:=lu hm;subst Qg;subst hA;have iF:ii<len:=hs;have hcs:=oP hl;have gp:d.cells.all Dv=true:=by rw[hcs];exact zo6 l
  have VJ:=vN hdR gp;have Bv:=VJ.length;rw[hcs]at VJ;have VJ:=RL.map_left.1 VJ;obtain⟨b',C,iE,⟨cap,mO⟩,hC,hCs,hgl,_⟩:=vP (S.obj L _ hL) iF;rw[bZ]at iE;simp only[bM]at iE;subst iE;have hlc:l.length=(a.eval y).cells.size:=by rw[hcs,VM]at Bv;simpa using Bv
  obtain⟨w',df,hb,Z4,ry,h5,h6,h7,h8⟩:=wY (P:=P) (v:=a.eval y) jL omY hC (show ii*s+kk+m<=C.size by omega) (cells_one hdR gp);have jh:=S.own L _ _ hL bZ;have Js:=(S.obj L _ hL).1.1;have hu0:=(Js 0 ii).length;have hvr:=zo8 (S.obj L _ hL) bZ iF omY hC hb VJ (zcG Js omY (by rw[hm];exact sZ) (yV VJ));have hnz:nzG (get 0) (Dw ii kk get l)=Dw ii kk get l:=zar λj=>by
    have h1:=zcG (i:=ii) Js (show kk+l.length<=(get 0).length by omega) (by rw[hm];exact sZ) (yV VJ) (ii+1) j;have h2:Dw ii kk get l (ii+1)=get (ii+1):=by unfold Dw;rw[show Nat.beq (ii+1) ii=false from Bool.eq_false_iff.2 λh=>by have:=lu h;omega]
    rw[h2]at h1;exact(Js 0 (ii+1)).trans h1
  rw[hnz];have S':=S.write (o':=.vec e s Qh len (Dw ii kk get l)) hL (λb hb=>hb) (DR jh.1 Z4 ry h5 h6 h7 h8) (λk hk=>ry k (λe=>hk (by rw[e];exact bZ))) hvr (λM hM=>by simp[dS]at hM);refine JZ (by simp[aY]) (w':=w') ?_ ⟨g,_,rfl,by rw[fZ];exact S'.put hd (d:=.junk) trivial LY _⟩;simp only[execOp,aY,Sem.run_bind,Instr.storeAt,yP,Instr.sureAddr,Sem.run_pure,Result.andThen_ok,df];subst hA;exact hs.elim;subst hA;exact hs.elim;rename_i te bb e s' Qh len ln get io hL;split at hA;rename_i M;split at hA;rename_i e2 s2 b2 mm lT hM;split at hA;rename_i dm;simp only[fQ,JS]at dm;obtain⟨⟨⟨h1,h2⟩,h3⟩,h4⟩:=dm;have h1:=lu h1;have h2:=lu h2;have h3:=lu h3;have h4:=qdA h4;subst h1 h2 h3;split at hA;rename_i hq;obtain⟨rfl,rfl,rfl,sZ⟩:=hq;subst hA;have hnz:zyp (get 0 0) (pO ii lT get)=pO ii lT get:=zoU λi j=>by
    have h1:=zcO (ii:=ii) (S.obj L _ hL).1.1 (S.obj M _ hM).1.1 sZ (ii+1) 0 i j;have h2:pO ii lT get (ii+1)=get (ii+1):=by unfold pO;rw[show Nat.beq (ii+1) ii=false from Bool.eq_false_iff.2 λh=>by have:=lu h;omega]
    rw[h2]at h1;exact((S.obj L _ hL).1.1 0 0 (ii+1) 0).trans h1
  rw[hnz];have iF:ii<len/\ii=io/\0<mm:=hs;obtain⟨zOA,rfl,z0O⟩:=iF;obtain⟨b',C,cap,mO,hC,ou⟩:=WR (S.obj L _ hL) zOA;obtain⟨_,hB,zOv⟩:∃_:True,B<=b'/\ii<C.size:=⟨trivial,(S.own L _ b' hL (.inl (by rw[mO];rfl))).1,(Wh.1 ou).1⟩;rw[mO]at bZ;simp only[Value.ownBlock,bM]at bZ;subst bZ;have Sz:a.eval y=g.sv M/\_:=hdR;have Bv:(a.eval y).cells = #[g.sv M]:=by
    obtain⟨_,_,xsM,hxM,_⟩:=S.obj M _ hM;rw[Sz.1];rcases hxM.2 with⟨h1,_⟩|⟨_,_,_,h1,_⟩<;>rw[h1]<;>rfl
  have hoc:(g.sv M).oneCell'=true:=by
    obtain⟨_,_,xsM,hxM,_⟩:=S.obj M _ hM;rcases hxM.2 with⟨h1,_⟩|⟨_,_,_,h1,_⟩<;>rw[h1]<;>rfl
  obtain⟨w',df,hb,Z4,ry,h5,h6,h7,h8⟩:=wY (P:=P) (m:=1) (off:=ii*1+0) (v:=a.eval y) jL (by rw[Bv];rfl) hC omY (by rw[Bv];simpa using hoc);have mP:w'.heap[b']? = some (.cells (C.setIfInBounds ii (g.sv M)) te (0,0)):=by
    rw[hb,Bv];congr 2;simp only[spl];apply Array.toList_inj.1;simp
  have S':=S.setVec hL hM h4 zOA z0O (zcO (S.obj L _ hL).1.1 (S.obj M _ hM).1.1 sZ) (by rw[mO];rfl) hC mP ry (DR hB Z4 ry h5 h6 h7 h8);refine JZ (by simp[aY]) (w':=w') ?_ ⟨_,_,rfl,by rw[fZ];exact S'.put hd (d:=.junk) trivial LY _⟩;simp only[execOp,aY,Sem.run_bind,Instr.storeAt,yP,Instr.sureAddr,Sem.run_pure,Result.andThen_ok,df];subst hA;exact hs.elim;subst hA;exact hs.elim;subst hA;exact hs.elim;subst hA;exact hs.elim;subst hA;exact hs.elim;subst hA;exact hs.elim
end
end Go.Pm
namespace Go.Pm
variable [aH]
open Go.RowKit (Below)
section
variable{P:Program}{Γ:bI}{nt B:Nat}{w0:World}{h0:Fz}{g:Gh}{σ:St}{a:Act}{w:World}{r:Option Nat}{n i:Nat}{Q:Exit->Act->World->Prop}
theorem II{ob:Nat→Option AO}:∀{cs:List Cl}{l:List PV}{u:mQ},jH ob cs=some (l,u)→cs.all Dv=true∧l.length=cs.length
  | [],l,u,h=>by simp[jH]at h;rw[h.1];exact⟨rfl,rfl⟩
  | c::cs,l,u,h=>by
    simp only[jH]at h;split at h;rename_i v u1 l2 u2 h1 h2;simp only[bM,gq]at h;rw[<- h.1];obtain⟨h3,h4⟩:=II h2;refine⟨?_,by simp[h4]⟩;have:Dv c=true:=by
      unfold AX at h1;split at h1;rfl;rfl;cases h1
    simp[this,h3];cases h
theorem LZ{ob:Nat->Option AO}{ev:Operand->DV}{s:Nat}:∀(parts:List (Nat×Operand))(i:Nat)(ls:List (List PV))(u:mQ)(jl:List Nat),
  jB ob ev s i parts=some (ls,u,jl)->fF ob u
 | [],i,ls,u,jl,h=>by simp[jB]at h;rw[h.2.1];exact fF.nil ob
 | (j,o)::r,i,ls,u,jl,h=>by
  simp only[jB]at h;split at h;split at h;split at h;rename_i h1 h2;split at h;simp only [bM,gq]at h;rw[<- h.2.1];exact(LK h1).append (LZ r _ _ _ _ h2);cases h;cases h;cases h;cases h
theorem L6{ob:Nat→Option AO}{ev:Operand→DV}{ρ:Operand→Value}{s:Nat}{u':mQ}{h':Fz}(hev:∀o,rW g (ev o) (ρ o))(F:fJ g ob u' h') :
    ∀(parts:List (Nat×Operand))(i:Nat)(ls:List (List PV))(u:mQ)(jl:List Nat)(C:Array Value)(N:Nat),jB ob ev s i parts=some (ls,u,jl)->(∀y∈u,y∈u') ->
      C.size=N*s->i+ls.length<=N ->
      ∃ D:Array Value,Instr.fill (λ k=>some (k * s,s)) C (parts.map λ x=>(x.1,ρ x.2))=some D/\D.size=C.size/\(∀ q,q < i * s->D[q]? = C[q]?) /\
        ∀k l,ls[k]? = some l->RL (Rep h') l ((D.toList.drop ((i+k)*s)).take s)
  | [],i,ls,u,jl,C,N,h,hu,hC,hN=>by
    simp[jB]at h;refine⟨C,rfl,rfl,λ_ _=>rfl,?_⟩;intro k l hk;rw[h.1]at hk;simp at hk
  | (j,o)::r,i,ls,u,jl,C,N,h,hu,hC,hN=>by
    have hd:=hev o;simp only[jB]at h;split at h;rename_i Ju;have Ju:=lu Ju;subst Ju;split at h;rename_i d he;rw[he]at hd;split at h;rename_i l1 u1 ls1 us1 zG5 h1 h2;split at h;rename_i hlen;have hlen:=lu hlen;simp only[bM,gq]at h;obtain⟨hls,Po,_⟩:=h;subst hls;rw[<- Po]at hu;obtain⟨gp,hll⟩:=II h1;have VJ:=vN hd gp;have Bv:=VJ.length;have zhx:=F.repL0 h1 (λy hy=>hu y (dR.2 (.inl hy))) VJ;have jE:(ρ o).cells.size=s:=by
      have:(ρ o).cells.toList.length=(ρ o).cells.size:=by simp
      omega
    simp only[qp]at hN;have hb:i*s+s<=N*s:=by have:=SI s (show i+1<=N by omega);rw[VQ]at this;exact this
    obtain ⟨D, hD, hDs, zcs, Iy⟩ := L6 hev F r (i + 1) ls1 us1 zG5 (spl C.toList (i * s) (ρ o).cells.toList).toArray N h2 (fun y hy => hu y (dR.2 (.inr hy)))
      (by simp[lV,hC]) omY
    have jL:(spl C.toList (i*s) (ρ o).cells.toList).toArray.size=C.size:=by simp[lV]
    have zcu:∀q,(spl C.toList (i*s) (ρ o).cells.toList).toArray[q]? = if i*s<=q/\q<i*s+s then(ρ o).cells.toList[q-i*s]? else C[q]?:=by
      intro q;simp only[qjZ];rw[DJ _ _ _ _ (by simp[jE,hC];omega)];simp[jE]
    refine⟨D,?_,hDs.trans jL,?_,?_⟩;simp only [lM,Instr.fill];have h3:¬((decide ((ρ o).cells.size≠s)||decide (i*s+(ρ o).cells.size>C.size))=true):=by simp[jE,hC];omega
    rw[eY h3,<- hD];refine jZ (λz=>Instr.fill _ z _) ?_;have:=Gz (i*s) (ρ o).cells.toList 0 C;rw[qja]at this;rw[<- this];cases(ρ o).cells;simp;intro q hq;rw[zcs q (by rw[VQ];omega),zcu,eY omY]
    · intro k l hk;cases k with
      | zero =>
        simp only[qdG,bM]at hk;subst hk;have e:(D.toList.drop ((i+0)*s)).take s=(ρ o).cells.toList:=by
          apply qdd;intro q;by_cases hq:q<s;rw [JR,eU hq,qdl,qja];have:=zcs (i*s+q) (by rw[VQ];omega);rw[zcu,eU omY,show i*s+q-i*s=q by omega]at this;simpa using this;rw [JR,eY hq];symm;apply dq2;simp[jE];omega
        rw[e];exact zhx
      | succ k =>
        have:=Iy k l (by simpa using hk);rwa[show i+1+k=i+(k+1)by omega]at this
    cases h;cases h;cases h;cases h
theorem L8(ls:List (List PV))(k:Nat)(h:k<ls.length):ls[k]? = some (BQ ls k):=by
 unfold BQ;split;simp at h;rename_i c;simp at h;subst h;rfl;rename_i c r _;have:∃x,(c::r)[k]? = some x:=⟨_,yC h⟩;obtain⟨x,hx⟩:=this;simp only[hx]
theorem je{e:TypeId}{z:List Cl}(hz:gX P e=some z){ie:TypeInfo}(hi:P.info? e=some ie):∃v,ie.zero=some v/\v.cells.size=ie.size:=by
 obtain⟨i',v,h1,h2,h3⟩:=ze9 hz;rw[hi]at h1;simp only[bM]at h1;subst h1;exact⟨v,h2,h3⟩
theorem L9{o:Oper}{t:TypeId}{m:Nat}{parts:Array (Nat×Operand)}{A:aC}(S:bU P nt B w0 h0 g σ a w)(hd:dH nt o.dst=true)(aY:o.op = .buildSlice t m parts)
    (hA:act P Γ o (fU σ.env) (lk σ.ax)=A) (hs:A.safe):jr P nt B w0 h0 r n i o A σ a w Q:=by
  simp only[act,aBs,aY]at hA;split at hA;rename_i e hu;split at hA;rename_i ie hi;split at hA;rename_i ls u jl hp;split at hA;rename_i z dst dm hz Iu;split at hA;rename_i iq;simp only[fQ,VT]at dm;obtain⟨⟨⟨hm,z0N⟩,iL⟩,sZ⟩:=dm;have hm:=lu hm;subst hA;obtain⟨zv,Iw,Bl⟩:=je hz hi;have gp:=LZ _ _ _ _ _ hp;obtain⟨h',S1,F⟩:=S.freeze gp;have jL:qK P e=some ie.size:=by simp[qK,hi]
  obtain⟨D,hD,hDs,_,Iy⟩:=L6 (λx=>S.ev x) F parts.toList 0 ls u jl ((Array.range (m*ie.size)).map (zv.cells[· % zv.cells.size]!)) m hp (λ_ h=>h) (by simp) omY;have zo9:D.size=m*ie.size:=by rw[hDs];simp
  have hmm:m<=1000000:=Gj (Nat.le_mul_of_pos_right m iL) z0N;let w':=w.alloc (.cells D e);have df:(execOp a.eval o).run P w=.ok (.value (.slice (some ⟨w.heap.size,0,none⟩) m m)) w':=by
    simp only[execOp,aY,Instr.buildSlice,Sem.run_bind,run_underlying hu,Result.andThen_ok,run_sizeOf jL];rw[Sem.run_ite,eY omY];by_cases h00:m*ie.size=0;have hm0:m=0:=by
      rcases Nat.mul_eq_zero.1 h00 with h|h
      exact h;omega
    subst hm0;have hpn:parts.toList=[]:=by
      cases VG:parts.toList with
      | nil=>rfl
      | cons x xs =>
        rw[VG]at hp;obtain⟨j,q⟩:=x;simp only[jB]at hp;split at hp;split at hp;split at hp;split at hp;simp only [bM,gq]at hp;rw[<- hp.1]at hm;simp at hm;cases hp;cases hp;cases hp;cases hp
    have hDe:D = #[]:=by apply Array.eq_empty_of_size_eq_zero;simp[zo9]
    rw[eU (by simp)];simp only[Sem.run_bind,Sem.run_pure,Result.andThen_ok,qju,hpn,qdY,Instr.fill];simp only[hDe,newRow,jqW,Sem.run_bind,run_newObj,Result.andThen_ok,Sem.run_pure,w'];rw[show(Array.range 0) = #[]from rfl,List.map_toArray];rfl;rw [eY h00];simp only[Sem.run_bind,lG hi Iw,Sem.run_pure,Result.andThen_ok,qju];rw[hD];simp[w',newRow]
  have hnz:nzG (BQ (ls.map (Ba P e)) 0) (BQ (ls.map (Ba P e)))=BQ (ls.map (Ba P e)):=zar λi=>Wy (λc hc=>by
    obtain⟨c,hc,rfl⟩:=uu.1 hc;obtain⟨k,hk⟩:=dq0 ‹c∈ls›;exact yV (vJ (Iy k _ hk))) sZ 0 i
  rw[hnz];have ziv:DI P ((⟨h',g.bk,g.sv,g.iv⟩:Gh).setSv dst (.slice (some ⟨w.heap.size,0,none⟩) m m)) w' B dst e ie.size ie.bytes m (BQ (ls.map (Ba P e))):=by
    refine⟨⟨Wy (λc hc=>?_) sZ,iL⟩,⟨ie,zv,hi,rfl,rfl,Iw,Bl⟩,D.toList,?_,?_⟩;obtain⟨c,hc,rfl⟩:=uu.1 hc;obtain⟨k,hk⟩:=dq0 ‹c∈ls›;exact yV (vJ (Iy k _ hk));rw [show((⟨h',g.bk,g.sv,g.iv⟩:Gh).setSv dst (.slice (some ⟨w.heap.size,0,none⟩) m m)).sv dst = .slice (some ⟨w.heap.size,0,none⟩) m m by simp [Gh.setSv]];refine⟨by simpa using zo9,.inr ⟨w.heap.size,m,D,rfl,S.bs,heap_alloc_new w _,jP _,?_,zo9,?_⟩⟩;simp only[maxLen];omega;rw[<- zo9,<- qjg,List.take_length];intro k hk;have:=Iy k _ (L8 ls k omY);rw[PK]at this;have e2:BQ (ls.map (Ba P e)) k=Ba P e (BQ ls k):=by
      have h1:=L8 (ls.map (Ba P e)) k (by rw[VM];omega);rw[qde,L8 ls k omY,Qq,bM]at h1;exact h1.symm
    rw[e2];exact vJ this
  have z1s:lk (u++σ.ax) dst=none:=by
    rw[gZ];cases hl:lk u dst with
    | none=>exact iq
    | some x =>
      have:=gp _ (fK hl);rcases this with⟨_,_,_,_,_,h5,_⟩|⟨_,_,_,_,h5,_⟩|⟨_,_,_,_,_,_,_,_,h5,_⟩<;>(simp only at h5;rw[iq]at h5;cases h5)
  have S2:=S1.newVec (t:=dst) (w':=w') z1s ⟨(Below.refl B w).alloc S.bs _,jP _⟩ (λb hb=>heap_alloc_old w _ b hb) (λb hb=>by simp[Value.ownBlock]at hb;omega) ziv;refine qB (by simp[aY]) df ⟨(⟨h',g.bk,g.sv,g.iv⟩:Gh).setSv dst (.slice (some ⟨w.heap.size,0,none⟩) m m),σ.upd i o.dst (wr jl++[(dst,true)]) (.cl (.vec dst)) ((dst,.vec e ie.size ie.bytes m (BQ (ls.map (Ba P e))))::u) [],rfl,?_⟩;rw[fZ];refine S2.put (v:=.slice (some ⟨w.heap.size,0,none⟩) m m) hd (d:=.cl (.vec dst)) ?_ ?_ _;simp[rW,BB,jk,Gh.setSv,Value.oneCell'];intro L hL;simp[bY,dC,bg]at hL;subst hL;exact⟨_,by rw[aV,eU rfl]⟩;subst hA;exact hs.elim;subst hA;exact hs.elim;subst hA;exact hs.elim;subst hA;exact hs.elim;subst hA;exact hs.elim
end
end Go.Pm
namespace Go.Pm
variable [aH]
open Go.RowKit (Below)
theorem pV{α:Type}{f:α->α}{l:List (Nat×α)}{k:Nat}:lk (kills f l) k=(lk l k).map f:=by
 induction l with
 | nil=>rfl
 | cons x l ih =>
  obtain⟨j,a⟩:=x;rw[kills,aV,aV];split;rfl;exact ih
section
variable{P:Program}{Γ:bI}{nt B:Nat}{w0:World}{h0:Fz}{g:Gh}{σ:St}{a:Act}{w:World}{r:Option Nat}{n i:Nat}{Q:Exit->Act->World->Prop}
theorem zcP{l:List Nat}{g':Gh}(hh:ku g.h g'.h)(ut:∀M,g'.bk M=g.bk M)(hs:∀M,M∉l->jd g g' M){c:Cl}{x:Value}(h:jk g c x):jk g' (gu l c) x:=by
 cases c with
 | p v=>exact Rep.mono hh h
 | ptr M off=>simp only[gu,jk]at h ⊢;rw[ut M];exact h
 | vptr M s k q =>
  show jk g' (match l.contains M with|true=>.dead M|false=>.vptr M s k q) x;cases hM:l.contains M with
  | true=>trivial
  | false =>
   have jb:M∉l:=by simpa using hM
   simpa [jk,(hs M jb).2.1]using h
 | vec M =>
  show jk g' (match l.contains M with|true=>.dead M|false=>.vec M) x;cases hM:l.contains M with
  | true=>trivial
  | false =>
   have jb:M∉l:=by simpa using hM
   simpa [jk,(hs M jb).2.1]using h
 | mo M =>
  show jk g' (match l.contains M with|true=>.dead M|false=>.mo M) x;cases hM:l.contains M with
  | true=>trivial
  | false =>
   have jb:M∉l:=by simpa using hM
   simpa [jk,(hs M jb).2.1]using h
 | clo f caps=>obtain⟨cv,e,hr⟩:=h;exact⟨cv,e,rE (λ_ _=>Rep.mono hh) (λM _=>ut M) hr⟩
 | undef=>exact h
 | junk=>trivial
 | dead M=>trivial
theorem DT{l:List Nat}{g':Gh}(hh:ku g.h g'.h)(ut:∀M,g'.bk M=g.bk M)(hs:∀M,M∉l→jd g g' M):∀{cs:List Cl}{vs:List Value},RL (jk g) cs vs→RL (jk g') (cs.map (gu l)) vs|[],[],_=>trivial|[],_::_,h=>h.elim|_::_,[],h=>h.elim|_::_,_::_,h=>⟨zcP hh ut hs h.1,DT hh ut hs h.2⟩
theorem WY{l:List Nat}{g':Gh}(hh:ku g.h g'.h)(ut:∀M,g'.bk M=g.bk M)(hs:∀M,M∉l->jd g g' M){d:D1}{x:Value}(h:BB g d x):BB g' (fV l d) x:=by
 cases d with
 | c y=>exact zcP hh ut hs h
 | agg cs=>obtain⟨vs,rfl,hr⟩:=h;exact⟨vs,rfl,DT hh ut hs hr⟩
theorem QI{l:List Nat}{g':Gh}(hh:ku g.h g'.h)(ut:∀M,g'.bk M=g.bk M)(hs:∀M,M∉l→jd g g' M):∀{cs:List D1}{vs:List Value},RL (BB g) cs vs→RL (BB g') (cs.map (fV l)) vs|[],[],_=>trivial|[],_::_,h=>h.elim|_::_,[],h=>h.elim|_::_,_::_,h=>⟨WY hh ut hs h.1,QI hh ut hs h.2⟩
theorem zcQ{l:List Nat}{g':Gh}(hh:ku g.h g'.h)(ut:∀M,g'.bk M=g.bk M)(hs:∀M,M∉l->jd g g' M){d:DV}{x:Value}(h:rW g d x):rW g' (gU l d) x:=by
 cases d with
 | one y=>exact WY hh ut hs h
 | tup ds=>obtain⟨vs,rfl,hr⟩:=h;exact⟨vs,rfl,QI hh ut hs hr⟩
theorem QJ{l:List Nat}{c:Cl}:∀M∈bg (gu l c),M∈bg c:=by
 intro M hM;cases c with
 | vec K =>
  have hM:M∈bg (match l.contains K with|true=>.dead K|false=>.vec K):=hM;cases h:l.contains K with|true=>rw[h]at hM;exact hM|false=>rw[h]at hM;exact hM
 | vptr K s k q =>
  have hM:M∈bg (match l.contains K with|true=>.dead K|false=>.vptr K s k q):=hM;cases h:l.contains K with|true=>rw[h]at hM;exact hM|false=>rw[h]at hM;exact hM
 | mo K =>
  have hM:M∈bg (match l.contains K with|true=>.dead K|false=>.mo K):=hM;cases h:l.contains K with|true=>rw[h]at hM;exact hM|false=>rw[h]at hM;exact hM
 | _=>exact hM
theorem QK{l:List Nat}{cs:List Cl}:∀M∈(cs.map (gu l)).flatMap bg,M∈cs.flatMap bg:=by
 intro M hM;simp only[mg,uu]at hM ⊢;obtain⟨_,⟨c,hc,rfl⟩,hM⟩:=hM;exact⟨c,hc,QJ M hM⟩
theorem Mc{l:List Nat}{d:D1}:∀M∈dC (fV l d),M∈dC d:=by
 cases d with|c y=>exact QJ|agg cs=>exact QK
theorem QL{l:List Nat}{d:DV}:∀M∈bY (gU l d),M∈bY d:=by
 cases d with
 | one y=>exact Mc
 | tup ds =>
  intro M hM;simp only[gU,bY,mg,uu]at hM ⊢;obtain⟨_,⟨d,hd,rfl⟩,hM⟩:=hM;exact⟨d,hd,Mc M hM⟩
theorem QM{l:List Nat}{o:AO}:∀M∈dS (fE l o),M∈dS o:=by
 cases o with|box ty cs=>exact QK|_=>exact λ_ h=>h
theorem bU.regrow(S:bU P nt B w0 h0 g σ a w){L:Nat}{o0 o':AO}{g':Gh}{w':World}{gs:List (Nat×AO)}{row:Option Nat}(hL:lk σ.ax L=some o0)
    (hh:g'.h=g.h) (ut:∀M,g'.bk M=g.bk M) (hs:∀M,M≠L->jd g g' M) (hgs:∀x∈gs,x.2=.gone/\x.1≠L)
    (hg:GrB w w' row) (zn6:∀k,row=some k->gY g L o0 k)
    (bZ:∀k,gY g' L o' k->gY g L o0 k\/w.heap.size<=k\/∃T oT,(T,.gone)∈gs/\lk σ.ax T=some oT/\gY g T oT k)
    (hv:Pz P g' w' B L o') (Bo:dS o'=[]) (log:List (Nat×Nat×Nat)) :
    bU P nt B w0 h0 g' ⟨kills (gU [L]) σ.env,(L,o')::(gs++kills (fE [L]) σ.ax),log⟩ a w':=by
  have kJ:∀M x,lk ((L,o')::(gs++kills (fE [L]) σ.ax)) M=some x->(M=L/\x=o')\/x=.gone\/(M≠L/\(M,.gone)∉gs/\∃o,lk σ.ax M=some o/\x=fE [L] o):=by
    intro M x h;rw[aV]at h;split at h;rename_i e;simp only[bM]at h;exact .inl ⟨e.symm,h.symm⟩
    · rename_i e;rw[gZ]at h;cases hgM:lk gs M with
      | some y =>
        rw[hgM]at h;simp only[bM]at h;subst h;exact .inr (.inl (hgs _ (fK hgM)).1)
      | none =>
        rw[hgM]at h;simp only[]at h;rw[pV]at h;obtain⟨o,ho,rfl⟩:=dqP.1 h;exact .inr (.inr ⟨λe'=>e e'.symm,Tf hgM _,o,ho,rfl⟩)
  have yJ:∀M o,lk σ.ax M=some o->∃x,lk ((L,o')::(gs++kills (fE [L]) σ.ax)) M=some x:=by
    intro M o h;rw[aV];split;exact⟨_,rfl⟩
    · rw [gZ];cases lk gs M with|some y=>exact⟨y,rfl⟩|none=>rw[pV,h];exact⟨_,rfl⟩
  have Md:∀M o,M≠L->gY g' M (fE [L] o)=gY g M o:=by
    intro M o jb;have:=hs M jb;funext k;cases o<;>simp[fE,gY,this.1,this.2.1,this.2.2]
  have hold:∀k,k<w.heap.size->¬gY g L o0 k->w'.heap[k]? = w.heap[k]?:=λk hk jb=>hg.block k hk (λe=>jb (zn6 k e.symm));have PH:Hw g.h w':=S.hw.same λk o hk=>hold k (vO S.hw hk) (λe=>by have:=(S.own L o0 k hL e).2;rw[this]at hk;cases hk);have sV:LD B w w':=⟨⟨hg.os,hg.tape,hg.output,hg.size,λk hk=>hold k (qdw hk S.bs) (λe=>by have:=(S.own L o0 k hL e).1;omega)⟩,hg.drawn⟩;have VH:∀k,w.heap.size<=k->B<=k/\g.h k=none:=λk hk=>by
    refine⟨Gj S.bs hk,?_⟩;cases hh:g.h k with|none=>rfl|some x=>exact absurd (vO S.hw hh) omY
  refine⟨by rw[hh];exact S.dfr,S.size,?_,?_,?_,?_,by rw[hh];exact PH,by rw[hh];exact S.le0,by rw[hh];exact S.hn,S.below.trans (.of sV),Gj S.bs hg.size,?_,?_⟩;intro t d ht;rw[pV]at ht;obtain⟨d',gG,rfl⟩:=dqP.1 ht;exact zcQ (by rw[hh];exact λ_ _ h=>h) ut (λM hM=>hs M (by simpa using hM)) (S.env t d' gG);intro M x hx;rcases kJ M x hx with⟨rfl,rfl⟩|rfl|⟨jb,hng,o,ho,rfl⟩
  exact hv;trivial
  · have KJ:∀k,gY g M o k->w'.heap[k]? = w.heap[k]?:=λk hk =>
      hold k (iP (S.obj M o ho) hk) (λe=>jb (S.sep M o k L _ ho hL hk e))
    have hr:=S.obj M o ho;have hsM:=hs M jb;have hle:ku g.h g'.h:=by rw[hh];exact λ_ _ h=>h
    cases o with
    | box ty cs =>
      obtain⟨C,hC,hr⟩:=hr;exact⟨C,by rw[ut M,KJ _ rfl];exact hC,DT (by rw[hh];exact λ_ _ h=>h) ut (λM hM=>hs M (by simpa using hM)) hr⟩
    | fbox cs =>
      obtain⟨C,ty,fr,hC,hr⟩:=hr;exact⟨C,ty,fr,by rw[hh,ut M];exact hC,by rw[hh];exact hr⟩
    | vec e' s' b' m2 lT=>exact QF hr hsM.2.1 hle KJ
    | fvec s' m2 lT =>
      simp only[fE,Pz]at hr ⊢;rw[hsM.2.1,hh];exact hr
    | vv te bb e' s' b' m2 ln2 lT=>exact WM hr hsM hle KJ
    | vt te bb e' s' b' m2 ln2 lT o2=>exact WN hr hsM hle KJ
    | mo kt vt q m2 F =>
      obtain⟨es,clock,hC,hr⟩:=hr;exact⟨es,clock,by rw[hsM.2.1,KJ _ rfl];exact hC,hr⟩
    | gone=>trivial
  intro M x k hx hk;rw[hh];rcases kJ M x hx with⟨rfl,rfl⟩|rfl|⟨jb,hng,o,ho,rfl⟩
  rcases bZ k hk with h|h|⟨T,oT,_,hT,h⟩
  exact S.own M o0 k hL h;exact VH k h;exact S.own T oT k hT h;exact hk.elim;rw [Md M o jb]at hk;exact S.own M o k ho hk;intro M x k M' x' hx yP hk jO;have SA:∀M o,lk σ.ax M=some o->M≠L->(M,.gone)∉gs->gY g M o k->gY g' L o' k->False:=by
    intro M o ho jb hng hk jO;rcases bZ k jO with h|h|⟨T,oT,hT,hT2,h⟩
    exact jb (S.sep M o k L _ ho hL hk h);exact absurd (iP (S.obj M o ho) hk) omY;exact hng (by rw[S.sep M o k T oT ho hT2 hk h];exact hT)
  rcases kJ M x hx with⟨rfl,rfl⟩|rfl|⟨jb,hng,o,ho,rfl⟩<;>rcases kJ M' x' yP with⟨rfl,rfl⟩|rfl|⟨zhz,zSa,o2,o9,rfl⟩
  rfl;exact jO.elim;rw [Md M' o2 zhz]at jO;exact(SA M' o2 o9 zhz zSa jO hk).elim;exact hk.elim;exact hk.elim;exact hk.elim;rw [Md M o jb]at hk;exact(SA M o ho jb hng hk jO).elim;exact jO.elim;rw [Md M o jb]at hk;rw [Md M' o2 zhz]at jO;exact S.sep M o k M' o2 ho o9 hk jO;intro t d ht M hM;rw[pV]at ht;obtain⟨d',gG,rfl⟩:=dqP.1 ht;obtain⟨o,ho⟩:=S.clE t d' gG M (QL M hM);exact yJ M o ho;intro M x hx N hN;rcases kJ M x hx with⟨rfl,rfl⟩|rfl|⟨jb,hng,o,ho,rfl⟩
  rw[Bo]at hN;simp at hN;simp[dS]at hN;obtain⟨o2,o9⟩:=S.clO M o ho N (QM N hN);exact yJ N o2 o9
theorem bU.grow(S:bU P nt B w0 h0 g σ a w){L e s b m m':Nat}{get get':Nat→List PV}{v':Value}{w':World}{dst:Option Nat}(hL:lk σ.ax L=some (.vec e s b m get))(hd:dH nt dst=true)
    (hg:GrB w w' (g.sv L).ownBlock) (VG:v'.ownBlock=(g.sv L).ownBlock\/v'.ownBlock=some w.heap.size\/v'.ownBlock=none) (hv:DI P (g.setSv L v') w' B L e s b m' get') (h1:v'.oneCell'=true) (log:List (Nat×Nat×Nat)) :
    bU P nt B w0 h0 (g.setSv L v') ⟨zaB dst (.cl (.vec L)) (kills (gU [L]) σ.env),(L,.vec e s b m' get')::kills (fE [L]) σ.ax,log⟩ (a.put dst v') w':=by
  have mO:(g.setSv L v').sv L=v':=by simp[Gh.setSv]
  have S1 := S.regrow (o' := .vec e s b m' get') (g' := g.setSv L v') (gs := []) (row := (g.sv L).ownBlock) hL rfl (fun _ => rfl) LJ (fun x hx => by simp at hx) hg (fun k hk => hk)
    (λk hk=>by
      simp only[gY,mO]at hk;rcases VG with h|h|h
      exact .inl (by show(g.sv L).ownBlock=some k;rw[<- h];exact hk);rw[h]at hk;simp only[bM]at hk;exact .inr (.inl omY);rw[h]at hk;cases hk) hv rfl log
  refine S1.put hd (d:=.cl (.vec L)) (v:=v') ⟨mO.symm,h1⟩ ?_ log;intro M hM;simp[bY,dC,bg]at hM;subst hM;exact⟨_,by rw[aV,eU rfl]⟩
def zG6(w:World)(v:Value)(m s:Nat)(news:List Value):Prop :=
 (m=0/\(v=.slice none 0 0\/∃a c,v=.slice (some a) 0 c)/\news=[])\/∃(b o cap:Nat),v=.slice (some ⟨b,o,none⟩) m cap/\news.length=m*s/\(∀j u,news[j]? = some u->w.cell? ⟨b,o+j,none⟩=some u)/\(∀u∈news,u.oneCell'=true)
def WZ(g:Gh)(w:World)(v:Value)(m s:Nat)(new:Nat->List PV):Prop :=
 (m=0/\(v=.slice none 0 0\/∃a c,v=.slice (some a) 0 c))\/∃(b o cap:Nat)(news:List Value),v=.slice (some ⟨b,o,none⟩) m cap/\news.length=m*s/\(∀j u,news[j]? = some u->w.cell? ⟨b,o+j,none⟩=some u) /\
  (∀u∈news,u.oneCell'=true)/\∀k,k<m->RL (Rep g.h) (new k) ((news.drop (k*s)).take s)
theorem src_of{b o cap m s:Nat}{C:Array Value}{ty:TypeId}{fr:Nat×Nat}{new:Nat→List PV}{v:Value}(hs:0<s)(hv:v = .slice (some ⟨b,o,none⟩) m cap)(hb:w.heap[b]? = some (.cells C ty fr))
    (hlen:∀k,k<m->(new k).length=s) (Iy:∀k j x,k<m->(new k)[j]? = some x->∃u,C[o+k*s+j]? = some u/\Rep g.h x u):WZ g w v m s new:=by
  refine .inr ⟨b,o,cap,(List.range (m*s)).map λq=>C.getD (o+q) undef,hv,by simp,?_,?_,?_⟩
  all_goals
    have at_:∀q,q<m*s->∃x u,(new (q/s))[q%s]? = some x/\C[o+q]? = some u/\Rep g.h x u:=by
      intro q hq;have hk:q/s<m:=qj5 (by rw[qdN];exact hq);have hj:q%s<s:=Nat.mod_lt _ hs;have hx:(new (q/s))[q%s]? = some ((new (q/s))[q%s]'(by rw[hlen _ hk];exact hj)):=yC _;obtain⟨u,hu,ZY⟩:=Iy _ _ _ hk hx;refine⟨_,u,hx,?_,ZY⟩;rw[show o+q=o+q/s*s+q%s by have:=jqx q s;rw[qdN]at this;omega];exact hu
  intro j u hj;have hjm:j<m*s:=by have:=(BP.1 hj).1;simpa using this
  obtain⟨x,u',_,hu,_⟩:=at_ j hjm;rw[cell_of hb];simp[hjm]at hj;rw[hu]at hj ⊢;simpa using hj;intro u hu;simp only[uu,KQ]at hu;obtain⟨q,hq,rfl⟩:=hu;obtain⟨x,u',_,hu,ZY⟩:=at_ q hq;rw[yB,hu];exact ZY.one;intro k hk;have hle:k*s+s<=m*s:=by have:=SI s (qdt hk);rw[VQ]at this;exact this
  refine RL.of_get ?_ ?_;rw[hlen k hk];simp;omega;intro j x u hx hu;have hj:j<s:=by have:=(BP.1 hx).1;rw[hlen k hk]at this;exact this
  obtain⟨u',hu',ZY⟩:=Iy k j x hk hx;rw[JR,eU hj,qdl]at hu;have V4:k*s+j<m*s:=by omega
  simp[V4]at hu;rw[show o+(k*s+j)=o+k*s+j by omega,hu']at hu;simp only[qdO]at hu;rw[<- hu];exact ZY
theorem ziw{m s:Nat}{new:Nat->List PV}{v:Value}(S:bU P nt B w0 h0 g σ a w)(hs:0<s)(h:Rep g.h (.sl m s new) v):WZ g w v m s new:=by
 cases h with|sl0=>exact .inl ⟨rfl,.inl rfl⟩|sle _ _ a c=>exact .inl ⟨rfl,.inr ⟨a,c,rfl⟩⟩|sl _ _ _ _ b o cap C ty fr vs hb kK hlen hc hr=>exact src_of hs rfl (S.hw.fz hb) hlen λk j x hk hj=>⟨vs k j,hc k j x hk hj,hr k j x hk hj⟩
theorem zpa{L e s b m:Nat}{new:Nat->List PV}(h:DI P g w B L e s b m new):WZ g w (g.sv L) m s new:=by
 by_cases hm:m=0;subst hm;obtain⟨hs,_,xs,hx,_⟩:=h;rcases hx.2 with⟨h1,_⟩|⟨k,cap,cur,h1,_⟩
 exact .inl ⟨rfl,.inl h1⟩;have hx0:xs=[]:=by have:=hx.1;simpa using this
 exact .inr ⟨k,0,cap,[],h1,by simp,λj u hj=>by simp at hj,λu hu=>by simp at hu,λk hk=>absurd hk omY⟩;obtain⟨k,C,_,⟨cap,mO⟩,hC,_,_,_⟩:=vP h (show 0<m by omega);refine src_of h.1.2 mO hC (λq hq=>?_) (λq j x hq hj=>?_);obtain⟨_,_,_,_,_,_,h6,_⟩:=vP h hq;exact h6;obtain⟨k',C',jO,⟨ZaZ,zyK⟩,ZZ,_,_,h7⟩:=vP h hq;rw[mO]at zyK;simp only[Value.slice.injEq,bM,Addr.mk.injEq]at zyK;obtain⟨⟨rfl,_⟩,_⟩:=zyK;rw[hC]at ZZ;simp only[bM,Obj.cells.injEq]at ZZ;obtain⟨rfl,_⟩:=ZZ;rw[PK];exact h7 j x hj
end
end Go.Pm
