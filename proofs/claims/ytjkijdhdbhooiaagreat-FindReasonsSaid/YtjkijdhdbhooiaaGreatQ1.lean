/- Part 1: framework, functions, plain laws. -/
import Derived.CallsIn
import Derived.Laws.AppendOwn
import Derived.Laws.Rows
import Derived.Laws.Cells
import Derived.Below
import Derived.DefersIn
import Derived.Laws.World
import Derived.Laws.StructEq
import Derived.MapKept
import Derived.Laws.AppendOwnNone
set_option linter.all false
noncomputable section
namespace Go.Pm
def bQ:=@Option.some.injEq
def dR:=@decide_eq_false
def dM:=@decide_eq_true
def dW:=@List.mem_append
def gy:=@Int.toNat_natCast
def gz:=@Bool.and_eq_true
def dF:=@cond_false
def jS:=@List.mem_cons_of_mem
def kP:=@Nat.eq_of_beq_eq_true
def gm:=@Prod.mk.injEq
def kQ:=@List.mem_cons_self
def dS:=@cond_true
def kY:=@List.mem_singleton
def xI:=@Array.getD_eq_getD_getElem?
def lD:=@List.mem_flatMap
def oD:=@List.flatMap_cons
def oW:=@decide_eq_true_eq
def kF:=@List.mem_cons
def AL:=@List.getElem?_eq_some_iff
def Ae:=@List.getElem?_eq_getElem
def kw:=@Nat.le_refl
def o5:=@List.map_cons
def Qy:=@Int.mul_le_mul_of_nonneg_right
def Af:=@List.all_eq_true
def eX:=@if_pos
def Jr:=@List.mem_of_getElem?
def Us:=@Array.getElem?_eq_some_iff
def fF:=@if_neg
def EN:=@List.length_cons
def IL:=@List.getElem?_take
def kz:=@congrArg
def xq:=@List.mem_map
def xQ:=@Int.le_of_lt
def Qz:=@Nat.mul_le_mul_right
def Gu:=@List.cons.injEq
def N7:=@List.length_append
def Ye:=@Option.map_eq_some_iff
def N8:=@Bool.not_eq_true'
def Yn:=@List.getElem?_cons_succ
def AP:=@Nat.zero_le
def Yo:=@List.getElem?_of_mem
def NT:=@List.mem_range
def OU:=@List.nil_append
def Gv:=@Nat.le_trans
def dqS:=@decide_eq_false_iff_not
def Js:=@Bool.not_true
def QA:=@Option.map_some
def dqV:=@Int.mul_le_mul_of_nonneg_left
def dqW:=@Array.getElem?_append_left
def Ud:=@List.map_append
def Ue:=@List.mem_filter
def N9:=@Bool.true_and
def Jt:=@decide_false
def Ut:=@Nat.not_lt_zero
def Uu:=@List.length_nil
def dq3:=@List.take_of_length_le
def dq4:=@List.getElem?_map
def Yf:=@List.foldl_cons
def Yg:=@Option.some.inj
def Oa:=@Nat.zero_add
def Yh:=@Bool.eq_iff_iff
def QB:=@Int.lt_irrefl
def qda:=@List.mem_or_eq_of_mem_set
def qdb:=@List.map_congr_left
def qdc:=@Array.toArray_toList
def qdd:=@List.length_drop
def qde:=@List.getElem_mem
def qdf:=@List.ext_getElem?
def qdg:=@List.getElem?_drop
def qdh:=@List.getElem?_eq_none
def qdi:=@Int.le_of_mul_le_mul_right
def qdj:=@Bool.or_eq_true
def qdk:=@of_decide_eq_true
def qdl:=@Nat.succ_le_of_lt
def Yp:=@Bool.false_and
def qdn:=@List.pairwise_iff_getElem
def Uf:=@Nat.succ_mul
def qdp:=@List.range_eq_range'
def qdq:=@List.nodup_cons
def qdr:=@List.range'_succ
def qds:=@Bool.false_eq_true
def qdt:=@Nat.lt_of_lt_of_le
def qdu:=@Nat.ne_of_beq_eq_false
def qdv:=@Classical.byContradiction
def qdw:=@List.eq_nil_of_length_eq_zero
def qdx:=@Nat.lt_trichotomy
def qdy:=@List.getElem?_cons_zero
def qdz:=@List.pairwise_cons
def Ug:=@Nat.ble_eq
def qdB:=@Array.getElem?_setIfInBounds_ne
def qdC:=@Array.getElem?_eq_getElem
def qdD:=@Nat.mul_comm
def qdE:=@Option.getD_some
def qdF:=@List.length_take
def qdG:=@List.pairwise_append
def qdH:=@List.flatMap_append
def qdI:=@Int.tdiv_eq_ediv_of_nonneg
def qdJ:=@List.cons_append
def qdK:=@Nat.le_of_ble_eq_true
def qdL:=@Bool.and_false
def qdM:=@Bool.not_false
def qdN:=@List.mem_append_left
def qdO:=@List.length_map
def qdP:=@Int.mul_tdiv_cancel_left
def qdQ:=@List.map_nil
def qdR:=@List.map_map
def qdS:=@beq_eq_false_iff_ne
def qdT:=@List.getElem_of_mem
def OV:=@if_true
def qdV:=@Array.getElem?_setIfInBounds
def qdW:=@Nat.add_zero
def qdX:=@Nat.lt_or_ge
def qdY:=@Int.lt_or_le
def qdZ:=@List.contains_iff_mem
def qd0:=@List.all_cons
def qd1:=@Bool.or_eq_false_iff
def qd2:=@Int.ediv_emod_unique
def qd3:=@Int.mul_nonneg
def qd4:=@if_false
def qd5:=@List.flatMap_map
def qd6:=@List.filter_cons
def qd7:=@Array.length_toList
def qd8:=@List.getElem?_range
def Uw:=@Iff.rfl
def qja:=@List.mem_map_of_mem
def qjb:=@Nat.blt_eq
def qjc:=@beq_iff_eq
def qjd:=@List.headD_cons
def qje:=@List.length_eq_zero_iff
def qjf:=@Array.getElem?_eq_none
def qjg:=@Int.mul_neg
def qjh:=@List.any_eq_false
def qji:=@List.pairwise_map
def qjj:=@List.mem_append_right
def qjk:=@List.length_filter_le
def qjl:=@Array.toList_map
def qjm:=@List.any_eq_true
def qjn:=@List.not_mem_nil
def qjo:=@Bool.not_eq_true
def qjp:=@List.getElem?_set_ne
def qjq:=@Nat.add_assoc
def qjr:=@List.map_id
def qjs:=@Int.add_mul
def qjt:=@Int.mul_lt_mul_of_pos_right
def qju:=@Nat.eq_zero_or_pos
def qjv:=@Int.le_total
def qjw:=@getElem!_pos
def qjx:=@List.nodup_nil
def qjy:=@List.mapM_cons
def qjz:=@Array.mapM_eq_mapM_toList
def qjA:=@List.getElem?_append_left
def qjB:=@List.getElem?_set
def qjC:=@List.nodup_append
def qjD:=@Nat.lt_of_succ_le
def qjE:=@Ne.symm
def qjF:=@Int.mul_sub
def qjG:=@List.getElem?_set_self
def qjH:=@Array.getElem?_modify
def qjI:=@List.getElem?_toArray
def qjJ:=@Nat.ble_eq_true_of_le
def qjK:=@Bool.or_true
def qjL:=@List.range_succ
def qjM:=@Int.emod_add_mul_ediv
def qjN:=@or_congr
def qjO:=@Nat.div_lt_of_lt_mul
def qjP:=@List.Pairwise.filter
def qjQ:=@List.filter_eq_self
def qjR:=@bne_eq_false_iff_eq
def qjS:=@Int.mul_pos
def qjT:=@congrFun
def qjU:=@Bool.and_true
def qjV:=@List.range'_concat
def qjW:=@Bool.and_self
def qjX:=@Nat.add_sub_cancel
def qjY:=@Int.emod_lt_of_pos
def qjZ:=@Array.all_eq_true_iff_forall_mem
def qj0:=@Array.toList_push
def qj1:=@List.foldl_append
def qj2:=@List.map_set
def qj3:=@Int.mul_zero
def qj4:=@Nat.gcd_comm
def qj5:=@Int.le_trans
def qj6:=@beq_self_eq_true
def qj7:=@Option.bind_some
def qj8:=@Nat.mod_eq_of_lt
def qj9:=@and_true
def jqa:=@Nat.div_add_mod
def jqb:=@Nat.mul_add_mod
def jqc:=@Int.sub_mul
def jqd:=@Int.emod_nonneg
def jqe:=@Int.mul_ne_zero
def jqf:=@Array.getElem?_eq_none_iff
def jqg:=@Int.lt_of_mul_lt_mul_right
def jqh:=@List.getD_eq_getElem?_getD
def jqi:=@List.getElem?_zip_eq_some
def jqj:=@List.extract_eq_take_drop
def jqk:=@Nat.mul_le_mul
def jql:=@Int.natAbs_mul
def jqm:=@Option.isSome_iff_exists
def jqn:=@Int.not_lt
def jqo:=@List.Perm.eq_of_pairwise
def jqp:=@or_false
def jqq:=@Bool.and_comm
def jqr:=@Nat.lt_irrefl
def jqs:=@Int.eq_ofNat_of_zero_le
def jqt:=@List.pairwise_singleton
def jqu:=@List.pairwise_lt_range
def jqv:=@List.length_pos_of_mem
def jqw:=@Bool.and_eq_false_iff
def jqx:=@List.set_getElem_self
def jqy:=@Nat.zero_mul
def jqz:=@Nat.sub_zero
def jqA:=@List.singleton_append
def jqB:=@Array.getElem?_toList
def jqC:=@Bool.or_self
def jqD:=@Bool.true_or
def jqE:=@Int.natAbs_dvd_natAbs
def jqF:=@Bool.not_not
def jqG:=@Int.mul_comm
def jqH:=@List.mem_of_mem_drop
def jqI:=@List.mem_of_mem_take
def jqJ:=@List.extract_toArray
theorem omY{p:Prop}(h:p:=by omega):p:=h
inductive KF where
  | one
  | ints
instance KF.dec:DecidableEq KF:=λa b=>match a,b with|.one,.one=>isTrue rfl|.ints,.ints=>isTrue rfl|.one,.ints=>isFalse (λh=>by cases h)|.ints,.one=>isFalse (λh=>by cases h)
abbrev MQ:=KF×Nat×Bool×List (Option IntKind)
inductive PV where
  | bool (b:Bool)
  | int (k:IntKind) (n:Int)
  | nilp
  | nilf
  | nilm
  | nils
  | fp (cells:List PV) (off:Nat)
  | sl (len size:Nat) (get:Nat->List PV)
  | fn (f:FuncId) (first caps:List PV)
  | fna (f:FuncId) (cells:List PV)
def smB:Nat→PV→PV→Bool
  | 0,_,_=>false
  | d+1,x,y=>match x,y with|.int k _,.int k' _=>decide (k=k')|.bool _,.bool _=>true|.sl _ s g,.sl _ s' g'=>Nat.beq s s'&&(Nat.beq (g 0).length (g' 0).length&&((g 0).zip (g' 0)).all λz=>smB d z.1 z.2)|.fp l o,.fp l' o'=>Nat.beq o o'&&(Nat.beq l.length l'.length&&(l.zip l').all λz=>smB d z.1 z.2)|.nils,.nils=>true|.nilp,.nilp=>true|.nilf,.nilf=>true|.nilm,.nilm=>true|_,_=>false
def smL(l m:List PV):Bool:=Nat.beq l.length m.length&&(l.zip m).all λz=>smB 8 z.1 z.2
inductive sZ where
  | v (v:PV)
  | b (L:Nat)
inductive Cl where
  | p (v:PV)
  | ptr (L off:Nat)
  | vptr (L size i k:Nat)
  | vec (L:Nat)
  | mo (L:Nat)
  | clo (f:FuncId) (caps:List sZ)
  | undef
  | junk
  | dead (L:Nat)
inductive D1 where
  | c (x:Cl)
  | agg (cs:List Cl)
inductive DV where
  | one (d:D1)
  | tup (ds:List D1)
inductive AO where
  | box (ty:Nat) (cells:List Cl)
  | fbox (cells:List PV)
  | vec (ety size bytes len:Nat) (get:Nat->List PV)
  | fvec (size len:Nat) (get:Nat->List PV)
  | vv (te bb ety size bytes len:Nat) (ln:Nat->Nat) (get:Nat->Nat->List PV)
  | vt (te bb ety size bytes len:Nat) (ln:Nat->Nat) (get:Nat->Nat->List PV) (hole:Nat)
  | mo (kt vt:Nat) (q:MQ) (n:Nat) (F:List Int->Option (List Int))
  | gone
inductive PA where
  | one (v:PV)
  | agg (cs:List PV)
structure ae (ρ : Type) where
  T:{A:Type}->(ρ->Option A)->Option A
  nat:∀{A:Type}(k:ρ->Option A),T k=(T some).bind k
abbrev ae.o{ρ:Type}(c:ae ρ):Option ρ:=c.T some
def ae.no{ρ:Type}:ae ρ:=⟨λ_=>none,λ_=>rfl⟩
def ae.ok{ρ:Type}(r:ρ):ae ρ:=⟨λk=>k r,λ_=>rfl⟩
inductive ES where
  | none
  | clone (ety size bytes:Nat)
  | sort (ety size bytes:Nat)
  | mkv (e s b:Nat) (F:List PA->ae (Nat×(Nat->List PV)×List PV))
  | grow (e s b:Nat) (F:List PA->Nat->(Nat->List PV)->ae (Nat×(Nat->List PV)))
inductive XC where
  | p (v:PV)
  | vec (e s b n:Nat) (get:Nat->List PV)
  | mo (kt vt:Nat) (q:MQ) (n:Nat) (F:List Int->Option (List Int))
  | slf (f:FuncId) (np n:Nat)
inductive XA where
  | d (a:PA)
  | box (ty:Nat) (cells:List XC)
abbrev MK:=List XA->ae (List PA×List XA)
structure bI where
  fn:FuncId->List PA->ae (List PA)
  own:FuncId->ES
  it:FuncId->List PA->ae (List (List PA))
  vv:Nat->Bool
  mt:FuncId->Option MK
  cfn:FuncId->List PA->ae (List PA)
def lk{α:Type}:List (Nat×α)→Nat→Option α
  | [],_=>none
  | (k,a)::r,n=>match Nat.beq k n with|true=>some a|false=>lk r n
structure St where
  env:List (Nat×DV)
  aB:List (Nat×AO)
  log:List (Nat×Nat×Nat)
abbrev DV.p(v:PV):DV:=.one (.c (.p v))
abbrev DV.int(n:Int):DV:=.one (.c (.p (.int .i64 n)))
abbrev DV.bool(b:Bool):DV:=.one (.c (.p (.bool b)))
abbrev DV.cl(x:Cl):DV:=.one (.c x)
abbrev DV.junk:DV:=.one (.c .junk)
def vP:Value→Option PV|.bool b=>some (.bool b)|.int k n=>some (.int k n)|.pointer none=>some .nilp|.slice none 0 0=>some .nils|.nilFunc=>some .nilf|.map none=>some .nilm|_=>none
def jo:List Value→Option (List Cl)
  | []=>some []
  | v::r=>match vP v,jo r with|some x,some l=>some (.p x::l)|_,_=>none
def OW(v:Value):DV :=
 match v with
 | .agg cs=>match jo cs.toList with|some l=>.one (.agg l)|none=>.junk
 | v=>match vP v with|some x=>.p x|none=>.junk
def fK(env:List (Nat×DV)):Operand→DV
  | .tmp t=>match lk env t with|some d=>d|none=>.junk
  | .const v=>OW v
  | .func f=>.p (.fn f [] [])
  | .global _=>.junk
section
variable(P:Program)
def pU(t:TypeId):Option Nat:=(P.info? t).map (·.size)
def jq(t:TypeId):Option Bool:=(P.underlying t).map fun
  | .struct _=>true
  | .array _ _=>true
  | _=>false
def gK(t:TypeId):Option (List Cl) :=
 match P.info? t with
 | some i=>match i.zero with
  | some z=>match jo z.cells.toList with
   | some l=>if l.length=i.size then some l else none
   | none=>none
  | none=>none
 | none=>none
end
def D1.cells:D1→List Cl|.c x=>[x]|.agg cs=>cs
def spl{α:Type}:List α→Nat→List α→List α|l,_,[]=>l|l,off,x::r=>spl (l.set off x) (off+1) r
def jT:List Cl→Option (List PV)
  | []=>some []
  | .p v::r=>match jT r with|some l=>some (v::l)|none=>none
  | _=>none
def zM(ob:Nat→Option AO):Cl→Option (PV×List (Nat×AO))
  | .p v=>some (v,[])
  | .vec L=>match ob L with|some (.vec _ size _ len get)=>some (.sl len size get,[(L,.fvec size len get)])|some (.fvec size len get)=>some (.sl len size get,[])|some (.vv _ _ _ size _ n ln get)=>some (.sl n 1 (λi=>[.sl (ln i) size (get i)]),[(L,.fvec 1 n (λi=>[.sl (ln i) size (get i)]))])|_=>none
  | _=>none
def jr(ob:Nat→Option AO):List Cl→Option (List PV×List (Nat×AO))
  | []=>some ([],[])
  | x::r=>match zM ob x,jr ob r with|some (v,u),some (l,us)=>some (v::l,u++us)|_,_=>none
def Ob(ob:Nat→Option AO):Cl→Option (PV×List (Nat×AO))
  | .ptr L off=>match ob L with
    | some (.box _ cells)=>match jr ob cells with|some (l,us)=>some (.fp l off,us++[(L,.fbox l)])|none=>none
    | some (.fbox l)=>some (.fp l off,[])
    | _=>none
  | x=>zM ob x
def mZ(ob:Nat→Option AO):List Cl→Option (List PV×List (Nat×AO))
  | []=>some ([],[])
  | x::r=>match Ob ob x,mZ ob r with|some (v,u),some (l,us)=>some (v::l,u++us)|_,_=>none
def Ju(ob:Nat→Option AO):Cl→Option (PV×List (Nat×AO))
  | .ptr L off=>match ob L with
    | some (.box _ cells)=>match mZ ob cells with|some (l,us)=>some (.fp l off,us++[(L,.fbox l)])|none=>none
    | some (.fbox l)=>some (.fp l off,[])
    | _=>none
  | x=>zM ob x
def rY(ob:Nat→Option AO):List Cl→Option (List PV×List (Nat×AO))
  | []=>some ([],[])
  | x::r=>match Ju ob x,rY ob r with|some (v,u),some (l,us)=>some (v::l,u++us)|_,_=>none
def zdl:sZ→Cl|.v v=>.p v|.b L=>.ptr L 0
def frz(ob:Nat→Option AO):Cl→Option (PV×List (Nat×AO))
  | .clo f caps=>match rY ob (caps.map zdl)with|some (l,us)=>some (.fn f [] l,us)|none=>none
  | x=>Ju ob x
def tq(ob:Nat→Option AO):List Cl→Option (List PV×List (Nat×AO))
  | []=>some ([],[])
  | x::r=>match frz ob x,tq ob r with|some (v,u),some (l,us)=>some (v::l,u++us)|_,_=>none
def zN(ob:Nat→Option AO):DV→Option (PA×List (Nat×AO))
  | .one (.c x)=>match frz ob x with|some (v,u)=>some (.one v,u)|none=>none
  | .one (.agg cs)=>match tq ob cs with|some (l,u)=>some (.agg l,u)|none=>none
  | _=>none
def iy(ob:Nat→Option AO):List DV→Option (List PA×List (Nat×AO))
  | []=>some ([],[])
  | x::r=>match zN ob x,iy ob r with|some (v,u),some (l,us)=>some (v::l,u++us)|_,_=>none
def lF:List sZ→List Nat|[]=>[]|.v _::r=>lF r|.b L::r=>L::lF r
def bu:Cl→List Nat|.ptr L _=>[L]|.vptr L _ _ _=>[L]|.vec L=>[L]|.mo L=>[L]|.clo _ caps=>lF caps|.dead L=>[L]|_=>[]
def dC:D1→List Nat|.c x=>bu x|.agg cs=>cs.flatMap bu
def cu:DV→List Nat|.one d=>dC d|.tup ds=>ds.flatMap dC
def dU:AO→List Nat|.box _ cs=>cs.flatMap bu|_=>[]
def bH(ob:Nat->Option AO)(d:DV):List Nat :=
 (cu d).flatMap λL=>L::match ob L with
  | some o=>(dU o).flatMap λM=>M::match ob M with|some o'=>dU o'|none=>[]
  | none=>[]
def IM:PA→D1|.one v=>.c (.p v)|.agg cs=>.agg (cs.map .p)
def resD:List PA→DV|[x]=>.one (IM x)|l=>.tup (l.map IM)
structure CP where
  p:Prop
  b:Bool
  h:b=true->p
instance cpOf(p:Prop)[Decidable p]:CoeDep Prop p CP:=⟨⟨p,decide p,of_decide_eq_true⟩⟩
inductive aJ : Type 1 where
  | no
  | val (fp:List (Nat×Bool)) (d:DV) (u:List (Nat×AO)) (kill:List Nat)
  | chk (fp:List (Nat×Bool)) (safe:CP) (d:DV) (u:List (Nat×AO)) (kill:List Nat)
def jI:PV→Bool|.bool _=>true|.int _ _=>true|_=>false
def zgu:PA→Bool|.one v=>jI v|.agg cs=>cs.all jI
def Ux(l:List PA):Bool:=l.all zgu
def rd(l:List Nat):List (Nat×Bool):=l.map λL=>(L,false)
def wr(l:List Nat):List (Nat×Bool):=l.map λL=>(L,true)
def sc2(l:List PV):Bool:=l.all jI&&Nat.ble 2 l.length
def zgv:List PV→Bool|a::b::r=>!(jI a&&jI b)&&zgv (b::r)|_=>true
def ztB:Nat×AO→Bool|(_,.fbox l)=>zgv l|(_,.gone)=>true|_=>false
def zaU:List (Nat×AO)→Bool|[(_,.fbox l),(_,.fbox [.fp _ _])]=>l.all λv=>!jI v|_=>false
inductive Anch:PV→Prop
  | scal (v:PV) (h:jI v=true):Anch v
  | nils:Anch .nils
  | sl (n s:Nat) (get:Nat->List PV) (h:∀i:Nat,∃(j:Nat)(x:PV),(get i)[j]? = some x/\jI x=true) (h2:∀(i:Nat)(x:PV),x∈get i->Anch x):Anch (.sl n s get)
def Ag:Nat→PV→Bool
  | 0,_=>false
  | d+1,v=>match v with|.nils=>true|.sl _ _ g=>(g 0).any jI&&(g 0).all (Ag d)|v=>jI v
def Uy(u:List (Nat×AO))(r:List PA):Bool:=match r,u with
 | [.one (.sl n s get)],_::_=>match sc2 (get 0)with|true=>u.all ztB|false=>zaU u&&Ag 8 (.sl n s get)
 | _,_=>false
def kZ(jc:List Nat)(u:List (Nat×AO))(r:List PA):aJ :=
 match Ux r||Uy u r with|true=>.val (rd jc) (resD r) [] []|false=>.val (wr jc) (resD r) u []
def nI(isAgg:Bool)(n:Nat)(cells:List Cl)(off:Nat):Option D1 :=
  match isAgg with
  | true => let l := (cells.drop off).take n
    match Nat.beq l.length n with|true=>some (.agg l)|false=>none
  | false=>match cells[off]? with|some x=>some (.c x)|none=>none
def D1.isAgg:D1→Bool|.c _=>false|.agg _=>true
def BV:Cl→Bool|.junk=>false|.undef=>false|.dead _=>false|_=>true
def mX:Cl→List Nat|.vptr L _ _ _=>[L]|.vec L=>[L]|.dead L=>[L]|.mo L=>[L]|_=>[]
def tu:D1→List Nat|.c x=>mX x|.agg cs=>cs.flatMap mX
def lN:DV→List Nat|.one d=>tu d|.tup ds=>ds.flatMap tu
def oZ:AO→List Nat|.box _ cs=>cs.flatMap mX|_=>[]
def appG(n:Nat)(get new:Nat->List PV):Nat->List PV :=
 λj=>match Nat.ble n j with|true=>new (j-n)|false=>get j
def BX(i k:Nat)(get:Nat->List PV)(new:List PV):Nat->List PV :=
 λj=>match Nat.beq j i with|true=>spl (get j) k new|false=>get j
def Il(f:PV→PV→PV):List PV→List PV→List PV|[],_=>[]|x::r,l=>f x (l.headD .nilp)::Il f r l.tail
def shp:Nat→PV→PV→PV
  | 0,_,b=>b
  | d+1,a,b=>match a with
    | .int k _=>.int k (match b with | .int _ n=>n|_=>0)
    | .bool _=>.bool (match b with | .bool x=>x|_=>false)
    | .sl _ s g=>.sl (match b with | .sl n _ _=>n|_=>0) s (λi=>Il (shp d) (g 0) (match b with | .sl _ _ g'=>g' i|_=>[]))
    | .fp l o=>.fp (Il (shp d) l (match b with | .fp l' _=>l'|_=>[])) o
    | a=>a
def nzG(row:List PV)(g:Nat->List PV):Nat->List PV:=λi=>Il (shp 8) row (g i)
def zwp(row:List PV)(g:Nat->Nat->List PV):Nat->Nat->List PV:=λi j=>Il (shp 8) row (g i j)
def Ah(b:Bool)(x y:DV):DV :=
 match x,y with
 | .one (.c (.p (.bool a))),.one (.c (.p (.bool c)))=>.bool (match b with|true=>a|false=>c)
 | x,y=>match b with|true=>x|false=>y
def zmQ(k:IntKind)(a b:Int):Int:=k.wrap (a*2^(min b.toNat k.bits))
def Io(k:IntKind)(a b:Int):Int:=a.fdiv (2^(min b.toNat k.bits))
def zEY(k:IntKind)(a b:Int):Int:=k.wrap (BitVec.ofInt k.bits a &&& BitVec.ofInt k.bits b).toNat
def orW(k:IntKind)(a b:Int):Int:=k.wrap (BitVec.ofInt k.bits a ||| BitVec.ofInt k.bits b).toNat
def zEZ(k:IntKind)(a b:Int):Int:=k.wrap (BitVec.ofInt k.bits a ^^^ BitVec.ofInt k.bits b).toNat
def zaV(k:IntKind)(a b:Int):Int:=k.wrap (BitVec.ofInt k.bits a &&& ~~~ BitVec.ofInt k.bits b).toNat
def zgw(op:BinOp)(k:IntKind)(a b:Int):aJ :=
 match op with|.shl=>.chk [] (0<=b) (.p (.int k (zmQ k a b))) [] []|.shr=>.chk [] (0<=b) (.p (.int k (Io k a b))) [] []|_=>.no
def Uz(op:BinOp)(k:IntKind)(a b:Int):aJ :=
 match op with|.shl=>.chk [] (0<=b) (.p (.int k (zmQ k a b))) [] []|.shr=>.chk [] (0<=b) (.p (.int k (Io k a b))) [] []|.and=>.val [] (.p (.int k (zEY k a b))) [] []|.or=>.val [] (.p (.int k (orW k a b))) [] []|.xor=>.val [] (.p (.int k (zEZ k a b))) [] []|.andNot=>.val [] (.p (.int k (zaV k a b))) [] []|.add=>.val [] (.p (.int k (k.wrap (a+b)))) [] []|.sub=>.val [] (.p (.int k (k.wrap (a-b)))) [] []|.mul=>.val [] (.p (.int k (k.wrap (a*b)))) [] []|.quo=>.chk [] (b≠0) (.p (.int k (k.wrap (a.tdiv b)))) [] []|.rem=>.chk [] (b≠0) (.p (.int k (a.tmod b))) [] []|.eql=>.val [] (.bool (a==b)) [] []|.neq=>.val [] (.bool (a != b)) [] []|.lss=>.val [] (.bool (decide (a<b))) [] []|.leq=>.val [] (.bool (decide (a<=b))) [] []|.gtr=>.val [] (.bool (decide (a>b))) [] []|.geq=>.val [] (.bool (decide (a>=b))) [] []
def Jv:List Cl→Option (List Int)
  | []=>some []
  | .p (.int .i64 a)::r=>match Jv r with|some l=>some (a::l)|none=>none
  | _=>none
def zwq(Γ:bI):Option Nat→Bool|some t=>Γ.vv t|none=>false
def ES.on:ES→Bool|.none=>false|_=>true
variable(P:Program)(Γ:bI)
def eqT:Nat→TypeId→D1→D1→Option Bool
  | 0,_,_,_=>none
  | d+1,t,x,y =>
    match P.underlying t with
    | some .bool=>match x,y with|.c (.p (.bool a)),.c (.p (.bool b))=>some (a==b)|_,_=>none
    | some (.int _)=>match x,y with
      | .c (.p (.int k a)),.c (.p (.int k' b))=>if k=k' then some (a==b)else none
      | _,_=>none
    | some (.struct fs)=>match x,y,P.stoodInHeld t with
      | .agg xs,.agg ys,false=>fs.toList.foldr (λf acc =>
          match acc, f.name != "_", jq P f.type, pU P f.type with
          | some r,true,some ag,some n=>match nI ag n xs f.offset,nI ag n ys f.offset with
            | some a,some b=>match eqT d f.type a b with
              | some e=>some (match e with|true=>r|false=>false)
              | none=>none
            | _,_=>none
          | _,_,_,_=>none) (some true)
      | _,_,_=>none
    | _=>none
def zaW(op:BinOp)(t:TypeId)(cs ds:List Cl):aJ :=
 match P.eqGuardType P.depth t,eqT P 8 t (.agg cs) (.agg ds)with
 | false,some r=>match op with|.eql=>.val [] (.bool r) [] []|.neq=>.val [] (.bool (!r)) [] []|_=>.no
 | _,_=>.no
def kJ:Nat→TypeId→Option Nat
  | 0,_=>none
  | d+1,t =>
    match P.underlying t with
    | some (.int .i64)=>match pU P t with
      | some n=>match Nat.beq n 1 with|true=>some 1|false=>none
      | none=>none
    | some (.struct fs)=>match P.stoodInHeld t with
      | true=>none
      | false => fs.toList.foldl (fun acc f => match acc, f.name != "_", kJ d f.type, pU P f.type with
        | some m,true,some n,some n'=>match Nat.beq f.offset m&&Nat.beq n n' with|true=>some (m+n)|false=>none
        | _,_,_,_=>none) (some 0)
    | some (.array n e)=>match kJ d e,pU P e with
      | some m,some m'=>match Nat.beq m m' with|true=>some (n*m)|false=>none
      | _,_=>none
    | _=>none
def Jw(t:TypeId)(x i:DV):aJ :=
 match P.underlying t with
 | some (.array n e)=>match pU P e,jq P e,x,i with
  | some m,some ag,.one (.agg cs),.one (.c (.p (.int _ (.ofNat j))))=>match Nat.blt j n,nI ag m cs (j*m)with|true,some d=>.val [] (.one d) [] []|_,_=>.no
  | _,_,_,_=>.no
 | _=>.no
def Jy(t:TypeId)(x:DV)(f:Nat):aJ :=
 match P.underlying t with
 | some (.struct fs)=>match fs[f]? with
  | some fd=>match pU P fd.type,jq P fd.type,x with
   | some m,some ag,.one (.agg cs)=>match nI ag m cs fd.offset with|some d=>.val [] (.one d) [] []|none=>.no
   | _,_,_=>.no
  | none=>.no
 | _=>.no
def BZ(n:Nat)(e:TypeId)(x i:DV):aJ :=
 match pU P e,i with
 | some m,.one (.c (.p (.int _ (.ofNat j))))=>match Nat.blt j n with
  | true=>match x with|.one (.c (.ptr L off))=>.val [] (.cl (.ptr L (off+j*m))) [] []|.one (.c (.p (.fp c off)))=>.val [] (.p (.fp c (off+j*m))) [] []|_=>.no
  | false=>.no
 | _,_=>.no
def zgx(t:TypeId):Option (List (Option IntKind)) :=
 match gK P t with
 | some z=>z.foldr (λc acc=>match c,acc with|.p (.int k (.ofNat 0)),some l=>some (some k::l)|.p (.bool false),some l=>some (none::l)|_,_=>none) (some [])
 | none=>none
def jX(k:TypeId):Option (KF×Nat) :=
 match kJ P 8 k,jq P k with
 | some n,some true=>some (.ints,n)
 | some n,some false=>match Nat.beq n 1 with|true=>some (.one,n)|false=>none
 | _,_=>none
def Jz(k e:TypeId):Option MQ :=
 match jX P k,zgx P e,jq P e with
 | some (kf,n),some ks,some xR=>match(xR||Nat.beq ks.length 1),(P.info? e).bind (·.zero),xR with|true,some (.agg _),true=>some (kf,n,xR,ks)|true,some (.agg _),false=>none|true,some _,false=>some (kf,n,xR,ks)|_,_,_=>none
 | _,_,_=>none
def zmR(kf:KF)(n:Nat)(d:DV):Option (List Int) :=
 match kf,d with
 | .ints,.one (.agg cs)=>match Jv cs with
  | some l=>match Nat.beq l.length n with|true=>some l|false=>none
  | none=>none
 | .one,.one (.c (.p (.int .i64 a)))=>some [a]
 | _,_=>none
def zgy:Option IntKind→Int→PV|some k,x=>.int k x|none,x=>.bool (x != 0)
def xX(o:Option (List Int))(i:Nat):Int:=match o with|some l=>l.getD i 0|none=>0
def zwr(o:Option (List Int)):Nat→List (Option IntKind)→List PV|_,[]=>[]|i,k::ks=>zgy k (xX o i)::zwr o (i+1) ks
def zgz(xR:Bool)(ks:List (Option IntKind))(o:Option (List Int)):Option D1 :=
 match xR,zwr o 0 ks with|true,l=>some (.agg (l.map .p))|false,[v]=>some (.c (.p v))|_,_=>none
def uC:List (Option IntKind)→List Cl→Option (List Int)
  | [],[]=>some []
  | some k::ks,.p (.int k' a)::r=>if k=k' then match uC ks r with|some l=>some (a::l)|none=>none else none
  | none::ks,.p (.bool b)::r=>match uC ks r with|some l=>some ((match b with|true=>1|false=>0)::l)|none=>none
  | _,_=>none
def Cb(c v:List Int)(F:List Int->Option (List Int)):List Int->Option (List Int) :=
 λx=>match decide (x=c)with|true=>some v|false=>F x
def addN(o:Option (List Int))(n:Nat):Nat:=match o with|some _=>n|none=>n+1
def found(q:MQ)(k:DV)(ok:Bool)(F:List Int->Option (List Int))(fin:DV->aJ):aJ :=
 match zmR q.1 q.2.1 k with
 | some c=>match zgz q.2.2.1 q.2.2.2 (F c)with
  | some d=>match ok with|true=>fin (.tup [d,.c (.p (.bool (F c).isSome))])|false=>fin (.one d)
  | none=>.no
 | none=>.no
def oG{α:Type}(i:Nat)(x:α)(f:Nat->α):Nat->α:=λj=>match Nat.beq j i with|true=>x|false=>f j
def JA(t:TypeId)(m k:DV)(ok:Bool)(ob:Nat->Option AO):aJ :=
 match P.underlying t,m with
 | some (.map kt vt),.one (.c (.mo L))=>match Jz P kt vt,ob L with
  | some q,some (.mo kt' vt' q' _ F)=>if kt'=kt/\vt'=vt/\q'=q then found q k ok F λd=>.val [(L,false)] d [] []else .no
  | _,_=>.no
 | _,_=>.no
def UA(t:TypeId)(m k v:DV)(ob:Nat->Option AO):aJ :=
 match P.underlying t,m with
 | some (.map kt vt),.one (.c (.mo L))=>match Jz P kt vt,ob L with
  | some q,some (.mo kt' vt' q' m' F)=>match zmR q.1 q.2.1 k,v with
   | some c,.one dv=>match uC q.2.2.2 dv.cells with
    | some l=>if kt'=kt/\vt'=vt/\q'=q/\dv.isAgg=q.2.2.1 then .val [(L,true)] .junk [(L,.mo kt vt q (addN (F c) m') (Cb c l F))] []else .no
    | none=>.no
   | _,_=>.no
  | _,_=>.no
 | _,_=>.no
def zaX(t k:Nat)(l:List PV):List PV :=
 match P.underlying t,l[k]? with
 | some (.slice e2),some .nils=>match pU P e2,gK P e2 with
  | some s,some z=>match jT z with|some z=>l.set k (.sl 0 s (λ_=>z))|none=>l
  | _,_=>l
 | _,_=>l
def zgA:List Field→List PV→List PV|[],l=>l|f::r,l=>zgA r (zaX P f.type f.offset l)
def zO(e:TypeId)(l:List PV):List PV :=
 match P.underlying e with|some (.struct fs)=>zgA P fs.toList l|_=>zaX P e 0 l
def Cc(e:TypeId):List PV:=match gK P e with
 | some z=>match jT z with|some l=>zO P e l|none=>[]
 | none=>[]
def rZ(t:TypeId)(x y:DV)(dst:Option Nat)(ob:Nat->Option AO):aJ :=
 match P.underlying t,x,y,dst with
 | some (.slice e),.one (.c (.p (.int _ n))),.one (.c (.p (.int _ m))),some dst=>match P.info? e,gK P e,ob dst with
  | some ie,some z,none=>match zwq Γ (some dst)with
   | true=>match z,P.underlying e with
    | [.p .nils],some (.slice e2)=>match P.info? e2,gK P e2,Nat.beq ie.size 1&&Nat.ble ie.bytes 1000000 with
     | some i2,some z2,true=>match jT z2,Nat.ble 1 i2.size with|some l2,true=>.chk [(dst,true)] (0<=n/\n=m/\n<=1000000) (.cl (.vec dst)) [(dst,.vv e ie.bytes e2 i2.size i2.bytes n.toNat (λ_=>0) (λ_ _=>l2))] []|_,_=>.no
     | _,_,_=>.no
    | _,_=>.no
   | false=>match jT z with
    | some l=>match Nat.ble 1 ie.size&&Nat.ble ie.bytes 1000000 with|true=>.chk [(dst,true)] (0<=n/\n=m/\n<=1000000) (.cl (.vec dst)) [(dst,.vec e ie.size ie.bytes n.toNat (λ_=>zO P e l))] []|false=>.no
    | none=>.no
  | _,_,_=>.no
 | _,_,_,_=>.no
def ET(ev:Operand→DV):Option Operand→Option (Option Int)
  | none=>some none
  | some x=>match ev x with|.one (.c (.p (.int _ j)))=>some (some j)|_=>none
def slG(get:Nat->List PV)(l:Nat):Nat->List PV:=λi=>get (i+l)
def Ce(t:TypeId)(x:DV)(lo hi:Option (Option Int)):aJ :=
 match P.underlying t,x,lo,hi with
 | some (.slice e),.one (.c (.p (.sl n s get))),some lo,some hi=>match pU P e with
  | some m=>match Nat.beq s m with|true=>.chk [] (0<=lo.getD 0/\lo.getD 0<=hi.getD (n:Int)/\hi.getD (n:Int)<=(n:Int)) (.p (.sl (hi.getD (n:Int)-lo.getD 0).toNat s (slG get (lo.getD 0).toNat))) [] []|false=>.no
  | none=>.no
 | _,_,_,_=>.no
def JB(t:TypeId)(f:Nat):Option Nat :=
 match P.underlying t with
 | some (.struct fs)=>match fs[f]? with
  | some fd=>match pU P fd.type with|some (_+1)=>some fd.offset|_=>none
  | none=>none
 | _=>none
def xY(t:TypeId):Bool :=
 match P.underlying t with|some (.struct fs)=>fs.toList.all λf=>(pU P f.type).isSome|some (.array _ e)=>(pU P e).isSome|_=>false
def iH(t:TypeId)(ev:Operand→DV):List Cl→List (Nat×Operand)→Option (List Cl)
  | z,[]=>some z
  | z,(i,o)::r =>
    match ev o with
    | .one d =>
      match P.underlying t with
      | some (.struct fs)=>match fs[i]? with
        | some fd=>match pU P fd.type with
          | some n=>match Nat.beq n d.cells.length&&Nat.ble (fd.offset+n) z.length&&d.cells.all BV with|true=>iH t ev (spl z fd.offset d.cells) r|false=>none
          | none=>none
        | none=>none
      | some (.array _ e)=>match pU P e with
        | some n=>match Nat.beq n d.cells.length&&Nat.ble (i*n+n) z.length&&d.cells.all BV with|true=>iH t ev (spl z (i*n) d.cells) r|false=>none
        | none=>none
      | _=>none
    | _=>none
def jl(ob:Nat→Option AO)(ev:Operand→DV)(size:Nat):Nat→List (Nat×Operand)→Option (List (List PV)×List (Nat×AO)×List Nat)
  | _,[]=>some ([],[],[])
  | i,(j,o)::r =>
    match Nat.beq i j with
    | true=>match ev o with
      | .one d=>match jr ob d.cells,jl ob ev size (i+1) r with
        | some (l,u),some (ls,us,jc)=>match Nat.beq l.length size with|true=>some (l::ls,u++us,dC d++jc)|false=>none
        | _,_=>none
      | _=>none
    | false=>none
def smA:List (List PV)→Bool|[]=>true|c::r=>smL c c&&r.all (smL c)
def AQ(l:List (List PV)):Nat->List PV :=
 match l with
 | []=>λ_=>[]
 | [c]=>λ_=>c
 | c::r=>λi=>match(c::r)[i]? with|some x=>x|none=>c
def EU(ob:Nat->Option AO)(dst:Option Nat)(o:AO)(d:Nat->DV):aJ :=
 match dst with
 | some t=>match ob t with|none=>.val [(t,true)] (d t) [(t,o)] []|some _=>.no
 | none=>.no
def elP(ag:Bool)(l:List PV):PA :=
 match ag,l with|true,l=>.agg l|false,[v]=>.one v|_,_=>.agg []
def JC(C:List PA->ae (List PA))(caps:List PV)(ag:Bool)(get:Nat->List PV)(i j:Nat):Option Int :=
 (C (elP ag (get i)::elP ag (get j)::caps.map .one)).T λr=>match r with|[.one (.int .i64 c)]=>some c|_=>none
def nJ(C:List PA->ae (List PA))(caps:List PV)(ag:Bool)(get:Nat->List PV)(i j:Nat):Int:=(JC C caps ag get i j).getD 0
def STO(n:Nat)(c:Nat->Nat->Int):Prop :=
 (∀i,i<n->0<=c i i)/\(∀i j,i<n->j<n->i≠j->(c i j<0/\0<=c j i)\/(c j i<0/\0<=c i j)) /\
 ∀i j k,i<n->j<n->k<n->c i j<0->c j k<0->c i k<0
def zgB(n:Nat)(p:Nat->Nat->Bool)(c:Nat->Nat->Int):Bool :=
  (List.range n).all fun i => decide (0 ≤ c i i) && (List.range n).all fun j => p i j && (Nat.beq i j || (decide (c i j < 0) && decide (0 ≤ c j i)) || (decide (c j i < 0) && decide (0 ≤ c i j))) &&
    (List.range n).all λk=>!(decide (c i j<0)&&decide (c j k<0))||decide (c i k<0)
def zwt(n:Nat)(p:Nat->Nat->Bool)(c:Nat->Nat->Int):Prop:=n<=4611686018427387/\(∀i j,i<n->j<n->p i j=true)/\STO n c
def zwu(n:Nat)(p:Nat->Nat->Bool)(c:Nat->Nat->Int):CP:=⟨zwt n p c,Nat.ble n 4611686018427387&&zgB n p c,λh=>by
 rw[gz,Ug]at h;obtain⟨h0,h⟩:=h;simp only[zgB,Af,NT,gz,qdj,oW,N8,jqw,dqS]at h;refine⟨h0,λi j hi hj=>((h i hi).2 j hj).1.1,λi hi=>(h i hi).1,λi j hi hj jb=>?_,λi j k hi hj hk h1 h2=>?_⟩;rcases((h i hi).2 j hj).1.2 with(h1|h1)|h1
 exact absurd (kP h1) jb;exact .inl h1;exact .inr h1;rcases((h i hi).2 j hj).2 k hk with(h3|h3)|h3
 exact absurd h1 h3;exact absurd h2 h3;exact h3⟩
def QC(c:Nat→Nat→Int)(x:Nat):List Nat→List Nat
  | []=>[x]
  | y::r=>match decide (c x y<0)with|true=>x::y::r|false=>y::QC c x r
def xZ(n:Nat)(c:Nat->Nat->Int):List Nat:=(List.range n).foldr (QC c) []
def JD{α:Type}(n:Nat)(c:Nat->Nat->Int)(get:Nat->α):Nat->α:=λi=>get ((xZ n c).getD i ((xZ n c).getD 0 0))
def zgC(get:Nat→List PV):List (Nat×AO)→Bool
  | []=>true
  | u=>match zaU u with|true=>(get 0).all (Ag 8)|false=>(get 0).all jI
def zwv(e:TypeId):List DV→Option (Nat×Nat×(Nat→List PV))
  | [.one (.c (.p (.sl n s get)))]=>some (n,s,get)
  | [.one (.c (.p .nils))]=>match gK P e with
    | some z=>match jT z with|some l=>some (0,l.length,λ_=>l)|none=>none
    | none=>none
  | _=>none
def JE{α:Type}:List α→Option (List α×α)
  | []=>none
  | d::r=>match JE r with|some (l,x)=>some (d::l,x)|none=>some ([],d)
def kC(o:Oper)(k:ES)(args:List DV)(ob:Nat->Option AO):aJ :=
  match k with
  | .none=>.no
  | .sort e s b=>match args with
    | [.one (.c (.vec L)),.one (.c (.p (.fn h [] caps)))]=>match ob L,jq P e with
      | some (.vec e' s' b' n get),some ag=>if e'=e/\s'=s/\b'=b then
          .chk [(L,true)] (zwu n (λi j=>(JC (Γ.cfn h) caps ag get i j).isSome) (nJ (Γ.cfn h) caps ag get)) (.tup []) [(L,.vec e s b n (JD n (nJ (Γ.cfn h) caps ag get) get))] []
        else .no
      | _,_=>.no
    | _=>.no
  | .clone e s b=>match zwv P e args,o.dst with
    | some (n,s',get),some dst=>match ob dst,P.info? e,gK P e with
      | none,some ie,some _=>if s'=s/\ie.size=s/\ie.bytes=b/\0<s then
          .chk [(dst,true)] (n*b<=140737488355328/\n<=9223372036854775807) (.cl (.vec dst)) [(dst,.vec e s b n get)] []
        else .no
      | _,_,_=>.no
    | _,_=>.no
  | .mkv e s b F=>match iy ob args,o.dst with
    | some (az,u),some dst=>match(F az).o,ob dst,P.info? e,gK P e with
      | some (n,get,rs),none,some ie,some _=>if ie.size=s/\ie.bytes=b/\0<s/\zgC get u=true/\rs.all jI=true then
          .val ((dst,true)::rd (args.flatMap (bH ob)))
            (match rs with|[]=>.cl (.vec dst)|_=>.tup (.c (.vec dst)::rs.map λv=>.c (.p v))) [(dst,.vec e s b n get)] []
        else .no
      | _,_,_,_=>.no
    | _,_=>.no
  | .grow e s b F=>match JE args with
    | some (ds,.one (.c (.vec L)))=>match iy ob ds,ob L with
      | some (az,[]),some (.vec e' s' b' n get)=>match(F az n get).o with
        | some (m,get')=>if e'=e/\s'=s/\b'=b then
            .val ((L,true)::rd (ds.flatMap (bH ob))) (.cl (.vec L)) [(L,.vec e s b m get')] [L]
          else .no
        | none=>.no
      | _,_=>.no
    | some (ds,.one (.c (.p .nils)))=>match iy ob ds,o.dst with
      | some (az,[]),some dst=>match ob dst,P.info? e,gK P e with
        | none,some ie,some z=>match jT z with
          | some l=>match(F az 0 λ_=>l).o with
            | some (m,get')=>if ie.size=s/\ie.bytes=b/\0<s then
                .val ((dst,true)::rd (ds.flatMap (bH ob))) (.cl (.vec dst)) [(dst,.vec e s b m get')] []
              else .no
            | none=>.no
          | none=>.no
        | _,_,_=>.no
      | _,_=>.no
    | _=>.no
def zE2:DV→Option sZ|.one (.c (.p v))=>some (.v v)|.one (.c (.ptr L 0))=>some (.b L)|_=>none
def Cf(ev:Operand→DV):List Operand→Option (List sZ)
  | []=>some []
  | x::r=>match zE2 (ev x),Cf ev r with|some c,some l=>some (c::l)|_,_=>none
def capD:sZ→DV|.v v=>.p v|.b L=>.cl (.ptr L 0)
abbrev kR:=Option (FuncId×Nat×List Nat)
def JF:List sZ→List Nat→Bool|[],[]=>true|.b L::r,M::s=>Nat.beq L M&&JF r s|_,_=>false
def UB:List sZ→Option (List Nat)
  | []=>some []
  | .b L::r=>match UB r with|some l=>some (L::l)|none=>none
  | _=>none
def zdm(f:FuncId)(np:Nat)(caps:List sZ):kR:=match UB caps with|some l=>some (f,np,l)|none=>none
def zww(sf:kR)(f:FuncId)(caps:List sZ):Option XC:=match sf with
 | some (f',np,ls)=>match Nat.beq f f'&&JF caps ls with|true=>some (.slf f' np ls.length)|false=>none
 | none=>none
def iO(sf:kR)(ob:Nat→Option AO):List Cl→Option (List XC×List Nat)
  | []=>some ([],[])
  | c::r=>match iO sf ob r with
    | some (l,ms)=>match c with
      | .p v=>some (.p v::l,ms)
      | .vec M=>match ob M with|some (.vec e s b n get)=>some (.vec e s b n get::l,M::ms)|_=>none
      | .mo M=>match ob M with|some (.mo kt vt q n F)=>some (.mo kt vt q n F::l,M::ms)|_=>none
      | .clo f caps=>match zww sf f caps with|some x=>some (x::l,ms)|none=>none
      | _=>none
    | none=>none
def rU(ob:Nat->Option AO)(d:DV):Option (XA×List Nat×List Nat) :=
 match zN ob d with|some (x,[])=>some (.d x,[],[])|_=>none
def zQ(sf:kR)(ob:Nat->Option AO)(d:DV):Option (XA×List Nat×List Nat) :=
 match d with
 | .one (.c (.ptr L 0))=>match ob L with
  | some (.box ty cells)=>match iO sf ob cells with|some (cs,ms)=>some (.box ty cs,L::ms,ms)|none=>none
  | _=>rU ob d
 | _=>rU ob d
def jU(sf:kR)(ob:Nat→Option AO):List DV→Option (List XA×List Nat×List Nat)
  | []=>some ([],[],[])
  | d::r=>match zQ sf ob d,jU sf ob r with|some (x,bl,ms),some (xs,bls,mss)=>some (x::xs,bl++bls,ms++mss)|_,_=>none
def gY:List Cl→List XC→Option (List Cl×List (Nat×AO))
  | [],[]=>some ([],[])
  | .p _::cs,.p v::ys=>match gY cs ys with|some (l,u)=>some (.p v::l,u)|none=>none
  | .vec M::cs,.vec e s b n get::ys=>match gY cs ys with|some (l,u)=>some (.vec M::l,(M,.vec e s b n get)::u)|none=>none
  | .mo M::cs,.mo kt vt q n F::ys=>match gY cs ys with|some (l,u)=>some (.mo M::l,(M,.mo kt vt q n F)::u)|none=>none
  | .clo f caps::cs,.slf _ _ _::ys=>match gY cs ys with|some (l,u)=>some (.clo f caps::l,u)|none=>none
  | _,_=>none
def Ip(ob:Nat->Option AO)(d:DV)(y:XA):Option (List (Nat×AO)) :=
 match d with
 | .one (.c (.ptr L 0))=>match ob L with
  | some (.box Yl cells)=>match y with
   | .box ty cs=>match Nat.beq ty Yl,gY cells cs with|true,some (l,u)=>some ((L,.box ty l)::u)|_,_=>none
   | .d _=>none
  | _=>match y with|.d _=>some []|.box _ _=>none
 | _=>match y with|.d _=>some []|.box _ _=>none
def jL(ob:Nat→Option AO):List DV→List XA→Option (List (Nat×AO))
  | [],[]=>some []
  | d::ds,y::ys=>match Ip ob d y,jL ob ds ys with|some u,some us=>some (u++us)|_,_=>none
  | _,_=>none
def lY:List Nat→Bool|[]=>true|x::r=>!r.contains x&&lY r
def kS:AO→Bool|.box _ [.clo _ _]=>true|_=>false
def zwx(ty:Nat)(k:IntKind)(n:Int):List PA:=[.one (.fna 4294967295 [.int .i64 ty,.int k n])]
def zmU(ty:Nat)(k:IntKind)(n:Int):List PanicEntry:=[{v:=.iface ty (.agg #[.int k n]),recovered:=false}]
def EW:List PA→Option (List PanicEntry)
  | [.one (.fna f [.int _ ty,.int k n])]=>match Nat.beq f 4294967295 with|true=>some (zmU ty.toNat k n)|false=>none
  | _=>none
def chR:List PanicEntry→Option (List PA)|[⟨.iface ty (.agg ⟨[.int k n]⟩),false,false⟩]=>some (zwx ty k n)|_=>none
theorem zE3{ch:List PanicEntry}{rs:List PA}(h:chR ch=some rs):EW rs=some ch:=by
 unfold chR at h;split at h;cases h;rfl;cases h
def pV(args:List DV)(ob:Nat->Option AO)(ls ms:List Nat)(rs:List PA)(ys:List XA):aJ:=match jL ob args ys with
 | some u=>match lY ls&&Nat.ble ms.length 1&&ms.all λM=>((u.filter λx=>!kS x.2).map (·.1)).contains M with|true=>.val (wr ((u.filter λx=>!kS x.2).map (·.1))++rd (args.flatMap (bH ob))) (resD rs) (u.filter λx=>!kS x.2) ms|false=>.no
 | none=>.no
def tC(C:MK)(sf:kR)(args:List DV)(ob:Nat->Option AO):aJ :=
 match jU sf ob args with
 | some (xs,ls,ms)=>match(C xs).o with
  | some (rs,ys)=>match EW rs with|none=>pV args ob ls ms rs ys|some _=>.no
  | none=>.no
 | none=>.no
def OX(ev:Operand→DV):List Operand→List Operand→Option (List PV)
  | [x],[]=>match ev x with|.one (.agg cs)=>jT cs|_=>none
  | _,_=>none
def EX(d:DV)(ob:Nat->Option AO):Option (Nat×Nat×(Nat->List PV)×List (Nat×Bool)) :=
 match d with
 | .one (.c (.p (.sl n sz get)))=>some (n,sz,get,[])
 | .one (.c (.vec M))=>match ob M with|some (.vec _ sz _ n get)=>some (n,sz,get,[(M,false)])|some (.fvec sz n get)=>some (n,sz,get,[(M,false)])|_=>none
 | _=>none
def QD(e:Nat)(ie:TypeInfo)(dst:Nat)(x s:DV)(ob:Nat->Option AO):aJ :=
 match EX x ob with
 | some (m,sz,new,fps)=>match s with
  | .one (.c (.vec L))=>match ob L with
   | some (.vec e' s' b' n get)=>if e'=e/\s'=ie.size/\b'=ie.bytes/\sz=s'/\0<s'/\cu x≠[L]/\smL (get 0) (new 0)=true then
     .chk ((L,true)::fps) ((n+m)*b'<=140737488355328/\n+m<=9223372036854775807) (.cl (.vec L)) [(L,.vec e s' b' (n+m) (nzG (get 0) (appG n get new)))] [L]
    else .no
   | _=>.no
  | .one (.c (.p .nils))=>match ob dst with
   | none=>if sz=ie.size/\0<sz then
     .chk ((dst,true)::fps) (m*ie.bytes<=140737488355328/\m<=9223372036854775807) (.cl (.vec dst)) [(dst,.vec e sz ie.bytes m new)] []
    else .no
   | some _=>.no
  | _=>.no
 | none=>.no
def aPk(ev:Operand->DV)(c a b:Operand):aJ:=match ev c with|.one (.c (.p (.bool t)))=>.val [] (Ah t (ev a) (ev b)) [] []|_=>.no
def aAl(o:Oper)(ev:Operand->DV)(ob:Nat->Option AO)(e:TypeId):aJ:=match gK P e with|some z=>EU ob o.dst (.box e z) λt=>.cl (.ptr t 0)|none=>.no
def aBx(o:Oper)(ev:Operand->DV)(ob:Nat->Option AO)(e:TypeId)(x:Operand):aJ:=match ev x,pU P e with
  | .one d,some n=>match Nat.beq d.cells.length n&&d.cells.all BV with|true=>EU ob o.dst (.box e d.cells) λt=>.cl (.ptr t 0)|false=>.no
  | _,_=>.no
def aBd(ev:Operand->DV)(t:TypeId)(parts:Array (Nat×Operand)):aJ:=match xY P t,gK P t with
  | true,some z=>match iH P t ev z parts.toList with|some l=>.val [] (.one (.agg l)) [] []|none=>.no
  | _,_=>.no
def aBs(o:Oper)(ev:Operand->DV)(ob:Nat->Option AO)(t:TypeId)(n:Nat)(parts:Array (Nat×Operand)):aJ:=match P.underlying t with
  | some (.slice e)=>match P.info? e with
   | some ie=>match jl ob ev ie.size 0 parts.toList with
    | some (ls,u,jc)=>match Nat.beq ls.length n&&Nat.ble (n*ie.size) 1000000&&Nat.ble 1 ie.size&&smA (ls.map (zO P e)),gK P e,o.dst with
     | true,some _,some dst=>match ob dst with|none=>.val (wr jc++[(dst,true)]) (.cl (.vec dst)) ((dst,.vec e ie.size ie.bytes n (nzG (AQ (ls.map (zO P e)) 0) (AQ (ls.map (zO P e)))))::u) []|some _=>.no
     | _,_,_=>.no
    | none=>.no
   | none=>.no
  | _=>.no
def aLd(o:Oper)(ev:Operand->DV)(ob:Nat->Option AO)(t:TypeId)(a:Operand):aJ:=match jq P t,pU P t with
  | some g,some n=>match ev a with
   | .one (.c (.ptr L off))=>match ob L with
    | some (.box _ cells)=>match nI g n cells off with|some d=>.val [(L,false)] (.one d) [] []|none=>.no
    | some (.fbox cells)=>match nI g n (cells.map .p) off with|some d=>.val [(L,false)] (.one d) [] []|none=>.no
    | _=>.no
   | .one (.c (.p (.fp cells off)))=>match nI g n (cells.map .p) off with|some d=>.val [] (.one d) [] []|none=>.no
   | .one (.c (.vptr L s i k))=>match ob L with
    | some (.vec _ s' _ len get)=>match Nat.beq s s',nI g n ((get i).map .p) k with|true,some d=>.chk [(L,false)] (i<len) (.one d) [] []|_,_=>.no
    | some (.fvec s' len get)=>match Nat.beq s s',nI g n ((get i).map .p) k with|true,some d=>.chk [(L,false)] (i<len) (.one d) [] []|_,_=>.no
    | some (.vv _ _ _ _ _ _ _ _)=>match Nat.beq s 1&&Nat.beq k 0,g with
     | true,false=>match o.dst with
      | some dst=>match ob dst,ob L with|none,some (.vv te bb e s' b len ln get)=>.chk [(L,true),(dst,true)] (i<len) (.cl (.vec dst)) [(dst,.vec e s' b (ln i) (get i)),(L,.vt te bb e s' b len ln get i)] []|_,_=>.no
      | none=>.no
     | _,_=>.no
    | _=>.no
   | _=>.no
  | _,_=>.no
def aSt(ev:Operand->DV)(ob:Nat->Option AO)(t:TypeId)(a x:Operand):aJ:=match pU P t,ev a,ev x with
  | some n,.one (.c (.ptr L off)),.one d=>match ob L with
   | some (.box ty cells)=>match Nat.beq d.cells.length n&&Nat.ble (off+n) cells.length&&d.cells.all BV with|true=>.val [(L,true)] .junk [(L,.box ty (spl cells off d.cells))] []|false=>.no
   | _=>.no
  | some n,.one (.c (.vptr L s i k)),.one d=>match ob L with
   | some (.vec e s' b len get)=>match jT d.cells with
    | some l=>match Nat.beq s s'&&Nat.beq l.length n&&Nat.ble (k+n) s&&smL (((get 0).drop k).take n) l with|true=>.chk [(L,true)] (i<len) .junk [(L,.vec e s' b len (nzG (get 0) (BX i k get l)))] []|false=>.no
    | none=>.no
   | some (.vt te bb e s' OL len ln get ii)=>match d with
    | .c (.vec M)=>match ob M with
     | some (.vec e2 s2 b2 m lG)=>match Nat.beq s 1&&Nat.beq k 0&&Nat.beq n 1 && !Nat.beq L M with
      | true=>if e2=e/\s2=s'/\b2=OL/\smL (get 0 0) (lG 0)=true then
        .chk [(L,true),(M,true)] (i<len/\i=ii/\0<m) .junk [(L,.vv te bb e s' OL len (oG i m ln) (zwp (get 0 0) (oG i lG get))),(M,.gone)] []
       else .no
      | false=>.no
     | _=>.no
    | _=>.no
   | _=>.no
  | _,_,_=>.no
def aNc(ev:Operand->DV)(x:Operand):aJ:=match ev x with|.one (.c (.ptr L off))=>.val [] (.cl (.ptr L off)) [] []|.one (.c (.p (.fp c off)))=>.val [] (.p (.fp c off)) [] []|.one (.c (.vptr L s i k))=>.val [] (.cl (.vptr L s i k)) [] []|_=>.no
def aBn(ev:Operand->DV)(op:BinOp)(t:TypeId)(x y:Operand):aJ:=match ev x,ev y with
  | .one (.c (.p (.int k a))),.one (.c (.p (.int k' b)))=>if k=k' then Uz op k a b else zgw op k a b
  | .one (.c (.p (.bool a))),.one (.c (.p (.bool b)))=>match P.underlying t,op with|some .bool,.eql=>.val [] (.bool (a==b)) [] []|some .bool,.neq=>.val [] (.bool (a != b)) [] []|_,_=>.no
  | .one (.agg cs),.one (.agg ds)=>zaW P op t cs ds
  | _,_=>.no
def aUn(ev:Operand->DV)(op:UnOp)(x:Operand):aJ:=match op,ev x with|.not,.one (.c (.p (.bool a)))=>.val [] (.bool (!a)) [] []|.neg,.one (.c (.p (.int k a)))=>.val [] (.p (.int k (k.wrap (0-a)))) [] []|_,_=>.no
def aCv(ev:Operand->DV)(t1 t2:TypeId)(x:Operand):aJ:=match P.underlying t1,P.underlying t2,ev x with|some _,some (.int k),.one (.c (.p (.int _ n)))=>.val [] (.p (.int k (k.wrap n))) [] []|_,_,_=>.no
def aFa(ev:Operand->DV)(t:TypeId)(x:Operand)(f:Nat):aJ:=match JB P t f with
  | some off=>match ev x with|.one (.c (.ptr L k))=>.val [] (.cl (.ptr L (k+off))) [] []|.one (.c (.p (.fp c k)))=>.val [] (.p (.fp c (k+off))) [] []|.one (.c (.vptr L s i k))=>.val [] (.cl (.vptr L s i (k+off))) [] []|_=>.no
  | none=>.no
def aIa(ev:Operand->DV)(ob:Nat->Option AO)(t:TypeId)(x i:Operand):aJ:=match P.underlying t with
  | some (.slice e)=>match pU P e,ev i with
   | some n,.one (.c (.p (.int _ j)))=>match ev x with
    | .one (.c (.p (.sl len s get)))=>if s=n then .chk [] (0<=j/\j<(len:Int)) (.p (.fp (get j.toNat) 0)) [] []else .no
    | .one (.c (.vec L))=>match ob L with
     | some (.vec _ s _ len _)=>if s=n then .chk [(L,false)] (0<=j/\j<(len:Int)) (.cl (.vptr L s j.toNat 0)) [] []else .no
     | some (.fvec s len get)=>if s=n then .chk [(L,false)] (0<=j/\j<(len:Int)) (.p (.fp (get j.toNat) 0)) [] []else .no
     | some (.vv _ _ _ _ _ len _ _)=>if n=1 then .chk [(L,false)] (0<=j/\j<(len:Int)) (.cl (.vptr L 1 j.toNat 0)) [] []else .no
     | some (.vt _ _ _ _ _ len _ _ _)=>if n=1 then .chk [(L,false)] (0<=j/\j<(len:Int)) (.cl (.vptr L 1 j.toNat 0)) [] []else .no
     | _=>.no
    | _=>.no
   | _,_=>.no
  | some (.array n e)=>BZ P n e (ev x) (ev i)
  | _=>.no
def aMm(o:Oper)(ev:Operand->DV)(ob:Nat->Option AO)(t:TypeId):aJ:=match zwq Γ o.dst with
  | true=>match P.underlying t with
   | some (.map kt vt)=>match Jz P kt vt with|some q=>EU ob o.dst (.mo kt vt q 0 (λ_=>none)) λt=>.cl (.mo t)|none=>.no
   | _=>.no
  | false=>.no
def aLn(ev:Operand->DV)(ob:Nat->Option AO)(args:Array Operand)(argTypes:Array TypeId):aJ:=match args.toList,argTypes.toList with
  | [x],[t]=>match P.underlying t with
   | some (.slice _)=>match ev x with
    | .one (.c (.p (.sl n _ _)))=>.val [] (.int n) [] []
    | .one (.c (.p .nils))=>.val [] (.int 0) [] []
    | .one (.c (.vec L))=>match ob L with|some (.vec _ _ _ n _)=>.val [(L,false)] (.int n) [] []|some (.fvec _ n _)=>.val [(L,false)] (.int n) [] []|some (.vv _ _ _ _ _ n _ _)=>.val [(L,false)] (.int n) [] []|_=>.no
    | _=>.no
   | some (.map _ _)=>match ev x with
    | .one (.c (.mo L))=>match ob L with|some (.mo _ _ _ n _)=>.val [(L,false)] (.int n) [] []|_=>.no
    | _=>.no
   | _=>.no
  | _,_=>.no
def aMx(ev:Operand->DV)(args:Array Operand):aJ:=match args.toList.map ev with
  | [.one (.c (.p (.int k a))),.one (.c (.p (.int _ b)))]=>.val [] (.p (.int k (if b>a then b else a))) [] []
  | _=>.no
def aMi(ev:Operand->DV)(args:Array Operand):aJ:=match args.toList.map ev with
  | [.one (.c (.p (.int k a))),.one (.c (.p (.int _ b)))]=>.val [] (.p (.int k (if b<a then b else a))) [] []
  | _=>.no
def aAp(o:Oper)(ev:Operand->DV)(ob:Nat->Option AO)(args:Array Operand)(argTypes:Array TypeId):aJ:=match args.toList,argTypes.toList with
  | [s,x],[t,t']=>match P.underlying t,Nat.beq t t',o.dst with
   | some (.slice e),true,some dst=>match P.info? e,gK P e with|some ie,some _=>QD e ie dst (ev x) (ev s) ob|_,_=>.no
   | _,_,_=>.no
  | _,_=>.no
def aCl(o:Oper)(ev:Operand->DV)(ob:Nat->Option AO)(f:Operand)(args:Array Operand):aJ:=match ev f with
    | .one (.c (.clo g caps))=>match Γ.mt g with|some C=>tC C (zdm g args.size caps) (args.toList.map ev++caps.map capD) ob|none=>.no
    | .one (.c (.p (.fn g first caps)))=>match Γ.mt g with
     | some C=>tC C none (first.map (λv=>.p v)++args.toList.map ev++caps.map (λv=>.p v)) ob
     | none=>match(Γ.own g).on with
     | true=>match first,caps with|[],[]=>kC P Γ o (Γ.own g) (args.toList.map ev) ob|_,_=>.no
     | false=>match iy ob (args.toList.map ev)with
      | some (az,u)=>match(Γ.fn g (first.map .one++az++caps.map .one)).o with|some r=>kZ (args.toList.flatMap λx=>bH ob (ev x)) u r|none=>.no
      | none=>.no
    | .one (.c (.p (.fna g cells)))=>match iy ob (args.toList.map ev)with
      | some (az,u)=>match(Γ.fn g (.agg cells::az)).o with|some r=>kZ (args.toList.flatMap λx=>bH ob (ev x)) u r|none=>.no
      | none=>.no
    | _=>.no
def aMf(ev:Operand->DV)(ob:Nat->Option AO)(f:FuncId)(first caps:Array Operand):aJ:=match(Γ.mt f).isSome with
   | true=>match first.toList,Cf ev caps.toList with|[],some l=>.val [] (.cl (.clo f l)) [] []|_,_=>.no
   | false=>match OX ev first.toList caps.toList with
    | some l=>.val [] (.p (.fna f l)) [] []
    | none=>match tq ob (first.toList.flatMap λx=>match ev x with | .one (.c c)=>[c]|_=>[.junk]),tq ob (caps.toList.flatMap λx=>match ev x with | .one (.c c)=>[c]|_=>[.junk])with
    | some (l,u),some (l',u')=>.val (wr ((first.toList++caps.toList).flatMap λx=>bH ob (ev x))) (.p (.fn f l l')) (u++u') []
    | _,_=>.no
def aEx(ev:Operand->DV)(t:Operand)(i:Nat):aJ:=match ev t with
  | .tup ds=>match ds[i]? with|some d=>.val [] (.one d) [] []|none=>.no
  | _=>.no
def act(o:Oper)(ev:Operand->DV)(ob:Nat->Option AO):aJ :=
 match o.op with
 | .move x=>.val [] (ev x) [] []
 | .assign x=>.val [] (ev x) [] []
 | .pick c a b=>aPk ev c a b
 | .alloc e=>aAl P o ev ob e
 | .box e x=>aBx P o ev ob e x
 | .build t parts=>aBd P ev t parts
 | .buildSlice t n parts=>aBs P o ev ob t n parts
 | .load t a=>aLd P o ev ob t a
 | .store t a x=>aSt P ev ob t a x
 | .nilCheck x=>aNc ev x
 | .binOp op t x y _=>aBn P ev op t x y
 | .unOp op _ x=>aUn ev op x
 | .convert t1 t2 x=>aCv P ev t1 t2 x
 | .fieldAddr t x f=>aFa P ev t x f
 | .indexAddr t x i=>aIa P ev ob t x i
 | .index t x i=>Jw P t (ev x) (ev i)
 | .field t x f=>Jy P t (ev x) f
 | .slice t x lo hi none=>Ce P t (ev x) (ET ev lo) (ET ev hi)
 | .lookup t m k ok=>JA P t (ev m) (ev k) ok ob
 | .mapUpdate t m k v=>UA P t (ev m) (ev k) (ev v) ob
 | .makeMap t none=>aMm P Γ o ev ob t
 | .makeSlice t x y=>rZ P Γ t (ev x) (ev y) o.dst ob
 | .call {callee:=.builtin .len,args,argTypes}=>aLn P ev ob args argTypes
 | .call {callee:=.builtin .max,args,argTypes:=_}=>aMx ev args
 | .call {callee:=.builtin .min,args,argTypes:=_}=>aMi ev args
 | .call {callee:=.builtin .append,args,argTypes}=>aAp P o ev ob args argTypes
 | .call {callee:=.value f,args,argTypes:=_}=>aCl P Γ o ev ob f args
 | .makeFunc (.func f) first caps=>aMf Γ ev ob f first caps
 | .extract t i=>aEx ev t i
 | _=>.no
end Go.Pm
namespace Go.Pm
def RL{α β:Type}(R:α→β→Prop):List α→List β→Prop|[],[]=>True|a::l,b::m=>R a b/\RL R l m|_,_=>False
section rl
variable{α β:Type}{R R':α->β->Prop}
theorem RL.length{l:List α}{m:List β}(h:RL R l m):l.length=m.length:=by
 induction l generalizing m with
 | nil=>cases m with|nil=>rfl|cons=>exact h.elim
 | cons a l ih=>cases m with|nil=>exact h.elim|cons b m=>simp[ih h.2]
theorem RL.mono{l:List α}{m:List β}(h:RL R l m)(hr:∀a b,R a b->R' a b):RL R' l m:=by
 induction l generalizing m with
 | nil=>cases m with|nil=>trivial|cons=>exact h.elim
 | cons a l ih=>cases m with|nil=>exact h.elim|cons b m=>exact⟨hr _ _ h.1,ih h.2⟩
theorem RL.mono_mem{l:List α}{m:List β}(h:RL R l m)(hr:∀a b,a∈l->R a b->R' a b):RL R' l m:=by
 induction l generalizing m with
 | nil=>cases m with|nil=>trivial|cons=>exact h.elim
 | cons a l ih=>cases m with|nil=>exact h.elim|cons b m=>exact⟨hr _ _ kQ h.1,ih h.2 λx y hx=>hr x y (jS _ hx)⟩
theorem RL.get{l:List α}{m:List β}(h:RL R l m):∀(j:Nat)(a:α),l[j]? = some a->∃b,m[j]? = some b/\R a b:=by
 induction l generalizing m with
 | nil=>intro j a hj;simp at hj
 | cons x l ih=>cases m with
  | nil=>exact h.elim
  | cons b m =>
   intro j a hj;cases j with
   | zero=>simp at hj;subst hj;exact⟨b,rfl,h.1⟩
   | succ j=>simp at hj;obtain⟨b',h1,h2⟩:=ih h.2 j a hj;exact⟨b',by simpa using h1,h2⟩
theorem RL.get'{l:List α}{m:List β}(h:RL R l m):∀(j:Nat)(b:β),m[j]? = some b->∃a,l[j]? = some a/\R a b:=by
 induction l generalizing m with
 | nil=>cases m with|nil=>intro j b hj;simp at hj|cons=>exact h.elim
 | cons x l ih=>cases m with
  | nil=>exact h.elim
  | cons y m =>
   intro j b hj;cases j with
   | zero=>simp at hj;subst hj;exact⟨x,rfl,h.1⟩
   | succ j=>simp at hj;obtain⟨b',h1,h2⟩:=ih h.2 j b hj;exact⟨b',by simpa using h1,h2⟩
theorem RL.of_get{l:List α}{m:List β}(hl:l.length=m.length)(h:∀(j:Nat)(a:α)(b:β),l[j]? = some a->m[j]? = some b->R a b):RL R l m:=by
 induction l generalizing m with
 | nil=>cases m with|nil=>trivial|cons=>simp at hl
 | cons x l ih=>cases m with
  | nil=>simp at hl
  | cons y m =>
   refine⟨h 0 x y rfl rfl,ih (by simpa using hl) λj a b ha hb=>h (j+1) a b (by simpa using ha) (by simpa using hb)⟩
theorem RL.append{l l':List α}{m m':List β}(h:RL R l m)(h':RL R l' m'):RL R (l++l') (m++m'):=by
 induction l generalizing m with
 | nil=>cases m with|nil=>exact h'|cons=>exact h.elim
 | cons a l ih=>cases m with|nil=>exact h.elim|cons b m=>exact⟨h.1,ih h.2⟩
theorem RL.set{l:List α}{m:List β}(h:RL R l m)(i:Nat){a:α}{b:β}(hab:R a b):RL R (l.set i a) (m.set i b):=by
 induction l generalizing m i with
 | nil=>cases m with|nil=>trivial|cons=>exact h.elim
 | cons x l ih=>cases m with
  | nil=>exact h.elim
  | cons y m=>cases i with|zero=>exact⟨hab,h.2⟩|succ i=>exact⟨h.1,ih h.2 i⟩
theorem RL.spl{l l':List α}{m m':List β}(h:RL R l m)(h':RL R l' m')(off:Nat):RL R (spl l off l') (Pm.spl m off m'):=by
 induction l' generalizing l m m' off with
 | nil=>cases m' with|nil=>simpa [Pm.spl]using h|cons=>exact h'.elim
 | cons x l' ih=>cases m' with|nil=>exact h'.elim|cons y m'=>simp only[Pm.spl];exact ih (h.set off h'.1) h'.2 _
theorem RL.drop{l:List α}{m:List β}(h:RL R l m)(n:Nat):RL R (l.drop n) (m.drop n):=by
 induction n generalizing l m with
 | zero=>simpa using h
 | succ n ih=>cases l with
  | nil=>cases m with|nil=>trivial|cons=>exact h.elim
  | cons a l=>cases m with|nil=>exact h.elim|cons b m=>simpa using ih h.2
theorem RL.take{l:List α}{m:List β}(h:RL R l m)(n:Nat):RL R (l.take n) (m.take n):=by
 induction n generalizing l m with
 | zero=>simp[RL]
 | succ n ih=>cases l with
  | nil=>cases m with|nil=>trivial|cons=>exact h.elim
  | cons a l=>cases m with|nil=>exact h.elim|cons b m=>exact⟨h.1,ih h.2⟩
theorem RL.map_left{γ:Type}{f:γ->α}{l:List γ}{m:List β}:RL R (l.map f) m↔RL (λx y=>R (f x) y) l m:=by
 induction l generalizing m with|nil=>cases m<;>simp[RL]|cons a l ih=>cases m<;>simp[RL,ih]
end rl
def atP:PV→Bool|.int _ _=>false|.bool _=>false|.sl _ _ _=>false|.fp _ _=>false|_=>true
inductive Sm:PV→PV→Prop
  | int (k:IntKind) (a b:Int):Sm (.int k a) (.int k b)
  | bool (a b:Bool):Sm (.bool a) (.bool b)
  | sl (n m s:Nat) (g g':Nat->List PV) (hl:∀i j:Nat,(g i).length=(g' j).length) (h:∀(i j k:Nat)(x y:PV),(g i)[k]? = some x->(g' j)[k]? = some y->Sm x y):Sm (.sl n s g) (.sl m s g')
  | fp (l l':List PV) (o:Nat) (hl:l.length=l'.length) (h:∀(k:Nat)(x y:PV),l[k]? = some x->l'[k]? = some y->Sm x y):Sm (.fp l o) (.fp l' o)
  | atom (p:PV) (h:atP p=true):Sm p p
theorem Sm.symm{x y:PV}(h:Sm x y):Sm y x:=by
 induction h with|int k a b=>exact .int k b a|bool a b=>exact .bool b a|sl n m s g g' hl h ih=>exact .sl m n s g' g (λi j=>(hl j i).symm) λi j k x y hx hy=>ih j i k y x hy hx|fp l l' o hl h ih=>exact .fp l' l o hl.symm λk x y hx hy=>ih k y x hy hx|atom p h=>exact .atom p h
theorem ou{α β:Type}{l:List α}{m:List β}{k:Nat}{x:α}(h:l.length=m.length)(hx:l[k]? = some x):∃y,m[k]? = some y:=by
 obtain⟨hk,_⟩:=AL.1 hx;exact⟨_,Ae (h▸hk)⟩
theorem Sm.trans{x y:PV}(h:Sm x y):∀{z:PV},Sm y z->Sm x z:=by
 induction h with
 | int k a b=>intro z h;cases h with|int _ _ c=>exact .int k a c|atom _ h=>cases h
 | bool a b=>intro z h;cases h with|bool _ c=>exact .bool a c|atom _ h=>cases h
 | sl n m s g g' hl h ih=>intro z h';cases h' with
  | sl _ m' _ _ g2 zK h' =>
   refine .sl n m' s g g2 (λi j=>(hl i 0).trans (zK 0 j)) λi j k x z hx hz=>?_;obtain⟨y,hy⟩:=ou (hl i 0) hx;exact ih i 0 k x y hx hy (h' 0 j k y z hy hz)
  | atom _ h=>cases h
 | fp l l' o hl h ih=>intro z h';cases h' with
  | fp _ l2 _ zK h' =>
   refine .fp l l2 o (hl.trans zK) λk x z hx hz=>?_;obtain⟨y,hy⟩:=ou hl hx;exact ih k x y hx hy (h' k y z hy hz)
  | atom _ h=>cases h
 | atom p h=>intro z h';exact h'
abbrev RS:List PV->List PV->Prop:=RL Sm
def tH(g:Nat->List PV):Prop:=∀i j,RS (g i) (g j)
theorem RS.symm{l m:List PV}(h:RS l m):RS m l:=by
 refine RL.of_get h.length.symm λj a b ha hb=>?_;obtain⟨y,hy,r⟩:=RL.get h j b hb;rw[ha]at hy;cases hy;exact r.symm
theorem RS.trans{l m n:List PV}(h:RS l m)(h':RS m n):RS l n:=by
 refine RL.of_get (h.length.trans h'.length) λj a b ha hb=>?_;obtain⟨y,hy,r⟩:=RL.get h j a ha;obtain⟨z,hz,r'⟩:=RL.get h' j y hy;rw[hb]at hz;cases hz;exact r.trans r'
theorem tH.sl{g g':Nat->List PV}(h:∀i j,RS (g i) (g' j))(n m s:Nat):Sm (.sl n s g) (.sl m s g') :=
 .sl n m s g g' (λi j=>(h i j).length) λi j k x y hx hy=>by
  obtain⟨z,hz,r⟩:=RL.get (h i j) k x hx;rw[hy]at hz;cases hz;exact r
theorem Sm.rows{n m s s':Nat}{g g':Nat->List PV}(h:Sm (.sl n s g) (.sl m s' g')):s=s'/\∀i j,RS (g i) (g' j):=by
 cases h with|sl _ _ _ _ _ hl h=>exact⟨rfl,λi j=>RL.of_get (hl i j) λk a b ha hb=>h i j k a b ha hb⟩|atom _ h=>cases h
theorem zwz:∀{d:Nat}{p q:PV},smB d p q=true->Sm p p->Sm q q->Sm p q:=by
 intro d
 induction d with
 | zero=>intro p q h;cases h
 | succ d ih =>
  have key:∀{l m:List PV},(Nat.beq l.length m.length&&(l.zip m).all λz=>smB d z.1 z.2)=true->RS l l->RS m m->RS l m:=by
   intro l m h hl hm;rw[gz]at h;refine RL.of_get (kP h.1) λj a b ha hb=>?_;obtain⟨_,ha',ra⟩:=RL.get hl j a ha;obtain⟨_,mW,rb⟩:=RL.get hm j b hb;rw[ha]at ha';rw[hb]at mW;cases ha';cases mW;exact ih (Af.1 h.2 (a,b) (Jr (i:=j) (by rw[jqi];exact⟨ha,hb⟩))) ra rb
  intro p q h hp hq;unfold smB at h;split at h;have:=qdk h;subst this;exact .int _ _ _;exact .bool _ _;rw [gz]at h;have e:=kP h.1;subst e;have h0:=key h.2 (hp.rows.2 0 0) (hq.rows.2 0 0);exact tH.sl (λi j=>((hp.rows.2 i 0).trans h0).trans (hq.rows.2 0 j)) _ _ _;rw [gz]at h;have e:=kP h.1;subst e;have hp':∀{l:List PV}{o:Nat},Sm (.fp l o) (.fp l o)->RS l l:=by
   intro l o h;cases h with|fp _ _ _ hl h=>exact RL.of_get hl λk a b ha hb=>h k a b ha hb|atom _ h=>cases h
  have h0:=key h.2 (hp' hp) (hp' hq);exact .fp _ _ _ h0.length λk x y hx hy=>by
   obtain⟨z,hz,r⟩:=RL.get h0 k x hx;rw[hy]at hz;cases hz;exact r
  exact hp;exact hp;exact hp;exact hp;cases h
theorem Sm.cells{l l':List PV}{o:Nat}(h:Sm (.fp l o) (.fp l' o)):RS l l':=by
 cases h with|fp _ _ _ hl h=>exact RL.of_get hl λk a b ha hb=>h k a b ha hb|atom _ h=>cases h
theorem Sm.fp'{l l':List PV}{o:Nat}(h:RS l l'):Sm (.fp l o) (.fp l' o):=.fp _ _ _ h.length λk x y hx hy=>by
 obtain⟨z,hz,r⟩:=RL.get h k x hx;rw[hy]at hz;cases hz;exact r
theorem JG{l m:List PV}(h:smL l m=true)(hl:RS l l)(hm:RS m m):RS l m:=by
 unfold smL at h;rw[gz]at h;refine RL.of_get (kP h.1) λj a b ha hb=>?_;obtain⟨_,ha',ra⟩:=RL.get hl j a ha;obtain⟨_,mW,rb⟩:=RL.get hm j b hb;rw[ha]at ha';rw[hb]at mW;cases ha';cases mW;exact zwz (Af.1 h.2 (a,b) (Jr (i:=j) (by rw[jqi];exact⟨ha,hb⟩))) ra rb
theorem zmY{n:Nat}{g new:Nat->List PV}(hg:tH g)(hn:tH new)(h:RS (g 0) (new 0)):tH (appG n g new):=by
 have h2:∀i j,RS (g i) (new j):=λi j=>((hg i 0).trans h).trans (hn 0 j);intro i j;unfold appG;split<;>split;exact hn _ _;exact(h2 _ _).symm;exact h2 _ _;exact hg _ _
theorem JH{c:List PV}(h:RS c c):tH λ_=>c:=λ_ _=>h
theorem vS{g:Nat->List PV}(h:tH g)(f:Nat->Nat):tH λi=>g (f i):=λ_ _=>h _ _
theorem UC{l:List (List PV)}(h:∀c∈l,RS c c)(hs:smA l=true):tH (AQ l):=by
 have key:∀c r,l=c::r->∀x∈l,RS c x:=by
  intro c r e x hx;subst e;simp only[smA,gz,Af]at hs;rcases kF.1 hx with rfl|hx
  exact h _ kQ;exact JG (hs.2 x hx) (h _ kQ) (h _ (jS _ hx))
 unfold AQ;split;exact λ_ _=>trivial;exact JH (h _ kQ);rename_i c r _;have k2:∀i:Nat,RS c (match(c::r)[i]? with|some x=>x|none=>c):=λi=>by
  split;rename_i x hx;exact key c r rfl x (Jr hx);exact h _ kQ
 exact λi j=>(k2 i).symm.trans (k2 j)
inductive o6:PV→PV→Prop
  | rfl (p:PV):o6 p p
  | nil (s:Nat) (g:Nat->List PV) (h:tH g):o6 .nils (.sl 0 s g)
  | sl (n s:Nat) (g g':Nat->List PV) (hu:tH g') (hl:∀i:Nat,i<n->(g i).length=(g' i).length) (h:∀(i k:Nat)(x y:PV),i<n->(g i)[k]? = some x->(g' i)[k]? = some y->o6 x y):o6 (.sl n s g) (.sl n s g')
  | fp (l l':List PV) (o:Nat) (hl:l.length=l'.length) (h:∀(k:Nat)(x y:PV),l[k]? = some x->l'[k]? = some y->o6 x y):o6 (.fp l o) (.fp l' o)
  | fn (f:FuncId) (a a' l l':List PV) (ha:a.length=a'.length) (h0:∀(k:Nat)(x y:PV),a[k]? = some x->a'[k]? = some y->o6 x y) (hl:l.length=l'.length) (h:∀(k:Nat)(x y:PV),l[k]? = some x->l'[k]? = some y->o6 x y):o6 (.fn f a l) (.fn f a' l')
theorem lZ{f:PV→PV→PV}(hf:∀a b,Sm a b→f a b=b):∀{l m:List PV},RS l m→Il f l m=m|[],[],_=>rfl|_::_,_::_,h=>by simp only[Il,qjd,List.tail_cons,hf _ _ h.1,lZ hf h.2]|[],_::_,h=>h.elim|_::_,[],h=>h.elim
theorem tJ:∀(d:Nat)(a b:PV),Sm a b→shp d a b=b
  | 0,_,_,_=>rfl
  | d+1,a,b,h=>by
    cases h with
    | int=>rfl
    | bool=>rfl
    | sl n m s g g' hl hg =>
      have hr:=(Sm.rows (.sl n m s g g' hl hg)).2;simp only[shp];congr 1;funext i;exact lZ (tJ d) (hr 0 i)
    | fp l l' o hl hg =>
      simp only[shp];rw[lZ (tJ d) (Sm.cells (.fp l l' o hl hg))]
    | atom _ ha=>cases a<;>first|rfl|cases ha
theorem Yq{row:List PV}{g:Nat->List PV}(h:∀i,RS row (g i)):nzG row g=g:=by
 funext i;exact lZ (tJ 8) (h i)
theorem zmZ{row:List PV}{g:Nat->Nat->List PV}(h:∀i j,RS row (g i j)):zwp row g=g:=by
 funext i j;exact lZ (tJ 8) (h i j)
structure Sl (α : Type) where
  len:Nat
  get:Nat->α
instance{α:Type}[Inhabited α]:Inhabited (Sl α):=⟨⟨0,λ_=>default⟩⟩
class bG (α : Type) where
  enc:α->List PV
  dec:List PV->α×List PV
  ck:List PV->Option (List PV)
  le:∀{l r:List PV},RS l l->ck l=some r->∃k,l=k++r/\(dec l).2=r/\RL o6 k (enc (dec l).1)
  inv:∀{l m r:List PV},RS l m->ck l=some r->∃r',ck m=some r'/\RS r r'
  sm:∀a b:α,RS (enc a) (enc b)
  eq:α->α->Bool
  eqk:∀{a b:α},eq a b=true->RL o6 (enc a) (enc b)
instance : bG Int where
  enc x:=[.int .i64 x]
  dec l:=match l with | .int .i64 x::r=>(x,r)|_=>(0,[])
  ck l:=match l with | .int .i64 _::r=>some r|_=>none
  le:=by
    intro l r _ h;split at h;cases h;exact⟨[_],rfl,rfl,.rfl _,trivial⟩;cases h
  inv:=by
    intro l m r h hc;split at hc
    · cases hc
      match m,h with
      | y::m,h =>
        obtain⟨h,h2⟩:=h;cases h with|int=>exact⟨_,rfl,h2⟩|atom _ h=>cases h
    cases hc
  sm a b:=⟨.int _ _ _,trivial⟩
  eq a b:=decide (a=b)
  eqk h:=by rw[of_decide_eq_true h];exact⟨.rfl _,trivial⟩
instance : bG Bool where
  enc x:=[.bool x]
  dec l:=match l with | .bool x::r=>(x,r)|_=>(false,[])
  ck l:=match l with | .bool _::r=>some r|_=>none
  le:=by
    intro l r _ h;split at h;cases h;exact⟨[_],rfl,rfl,.rfl _,trivial⟩;cases h
  inv:=by
    intro l m r h hc;split at hc
    · cases hc
      match m,h with
      | y::m,h =>
        obtain⟨h,h2⟩:=h;cases h with|bool=>exact⟨_,rfl,h2⟩|atom _ h=>cases h
    cases hc
  sm a b:=⟨.bool _ _,trivial⟩
  eq a b:=a==b
  eqk h:=by rw[eq_of_beq h];exact⟨.rfl _,trivial⟩
def OY(o:Option (List PV)):Bool:=match o with|some []=>true|_=>false
theorem QE{o:Option (List PV)}(h:OY o=true):o=some []:=by
 unfold OY at h;split at h;rfl;cases h
theorem nK{α:Type}[bG α]{g:Nat->List PV}(h:tH g)(hc:OY (bG.ck (α:=α) (g 0))=true)(i:Nat):RL o6 (g i) (bG.enc (bG.dec (α:=α) (g i)).1):=by
 obtain⟨r',e,hr⟩:=bG.inv (h 0 i) (QE hc);cases r' with
 | nil =>
  obtain⟨k,e1,_,r⟩:=bG.le (h i i) e;rw[List.append_nil]at e1;rw[<- e1]at r;exact r
 | cons=>exact hr.elim
def eH(p:Nat→Bool):Nat→Bool|0=>true|n+1=>eH p n&&p n
theorem QF{p:Nat→Bool}:∀{n:Nat},eH p n=true→∀i,i<n→p i=true
  | 0,_,i,hi=>absurd hi (Ut i)
  | n+1,h,i,hi=>by
    simp only[eH,gz]at h;rcases Nat.lt_succ_iff_lt_or_eq.1 hi with h1|rfl
    exact QF h.1 i h1;exact h.2
instance {α : Type} [bG α] [Inhabited α] : bG (Sl α) where
  enc x:=[.sl x.len (bG.enc (default:α)).length (λi=>bG.enc (x.get i))]
  dec l:=match l with|.sl n _ g::r=>(⟨n,λi=>(bG.dec (g i)).1⟩,r)|.nils::r=>(⟨0,λ_=>default⟩,r)|_=>(⟨0,λ_=>default⟩,[])
  ck l:=match l with
    | .sl _ s g::r=>match Nat.beq s (bG.enc (default:α)).length&&OY (bG.ck (α:=α) (g 0))with|true=>some r|false=>none
    | .nils::r=>some r
    | _=>none
  le:=by
    intro l r hl h;split at h;rename_i n s g r';split at h;rename_i hc;rw[Bool.and_eq_true]at hc;cases h;have e:=Nat.eq_of_beq_eq_true hc.1;subst e;have hu:tH g:=hl.1.rows.2;refine⟨[_],rfl,rfl,?_,trivial⟩;have hp:=λi=>nK (α:=α) hu hc.2 i;exact .sl _ _ _ _ (λi j=>bG.sm _ _) (λi _=>(hp i).length) λi k x y _ hx hy=>by
      obtain⟨z,hz,r⟩:=RL.get (hp i) k x hx;rw[hy]at hz;cases hz;exact r
    cases h;cases h;exact⟨[_],rfl,rfl,.nil _ _ λi j=>bG.sm _ _,trivial⟩;cases h
  inv:=by
    intro l m r h hc;split at hc;rename_i n s g r';split at hc
    · rename_i hs;cases hc
      match m,h with
      | y::m,h =>
        obtain⟨h,h2⟩:=h;cases h with
        | sl _ m' _ _ g' hl hg =>
          rw[Bool.and_eq_true]at hs;obtain⟨r',e,hr⟩:=bG.inv (α:=α) ((Sm.rows (.sl n m' s g g' hl hg)).2 0 0) (QE hs.2);cases r' with|nil=>exact⟨m,by simp only[hs.1,e];rfl,h2⟩|cons=>exact hr.elim
        | atom _ h=>cases h
    cases hc
    · cases hc
      match m,h with
      | y::m,h =>
        obtain⟨h,h2⟩:=h;cases h with|atom _ _=>exact⟨m,rfl,h2⟩
    cases hc
  sm a b:=⟨tH.sl (λi j=>bG.sm _ _) _ _ _,trivial⟩
  eq a b:=Nat.beq a.len b.len&&eH (λi=>bG.eq (a.get i) (b.get i)) a.len
  eqk:=by
    intro a b h;obtain⟨n,f⟩:=a;obtain⟨m,f'⟩:=b;rw[Bool.and_eq_true]at h;have e:n=m:=Nat.eq_of_beq_eq_true h.1;subst e;have key:=λi (hi:i<n)=>bG.eqk (QF h.2 i hi);exact⟨.sl _ _ _ _ (λi j=>bG.sm _ _) (λi hi=>(key i hi).length) λi k x y hi hx hy=>by
      obtain⟨z,hz,r⟩:=RL.get (key i hi) k x hx;rw[hy]at hz;cases hz;exact r,trivial⟩
theorem zaY{α β:Type}{R:α→β→Prop}:∀{a:List α}{b:List β}{c:List α}{d:List β},RL R a b→RL R c d→RL R (a++c) (b++d)|[],[],_,_,_,h=>h|_::_,_::_,_,_,h,h'=>⟨h.1,zaY h.2 h'⟩
instance {α β : Type} [bG α] [bG β] : bG (α × β) where
  enc:=λx=>bG.enc x.1++bG.enc x.2
  dec:=λl=>(((bG.dec (α:=α) l).1,(bG.dec (α:=β) (bG.dec (α:=α) l).2).1),(bG.dec (α:=β) (bG.dec (α:=α) l).2).2)
  ck:=λl=>match bG.ck (α:=α) l with|some r=>bG.ck (α:=β) r|none=>none
  le:=by
    intro l r hl h;split at h;rename_i r1 h1;obtain⟨k1,e1,d1,p1⟩:=bG.le hl h1;obtain⟨r1',e1',s1⟩:=bG.inv hl h1;rw[h1]at e1';cases e1';obtain⟨k2,e2,d2,p2⟩:=bG.le s1 h;refine⟨k1++k2,by rw[List.append_assoc,<- e2];exact e1,?_,?_⟩;simp only[d1];exact d2;simp only[d1];exact zaY p1 p2;cases h
  inv:=by
    intro l m r h hc;split at hc;rename_i r1 h1;obtain⟨r1',e1,s1⟩:=bG.inv h h1;obtain⟨r2',e2,s2⟩:=bG.inv s1 hc;exact⟨r2',by rw[e1];exact e2,s2⟩;cases hc
  sm a b:=zaY (bG.sm _ _) (bG.sm _ _)
  eq a b:=bG.eq a.1 b.1&&bG.eq a.2 b.2
  eqk h:=by rw[Bool.and_eq_true]at h;exact zaY (bG.eqk h.1) (bG.eqk h.2)
structure Pt (α : Type) where
  v:α
instance{α:Type}[Inhabited α]:Inhabited (Pt α):=⟨⟨default⟩⟩
instance {α : Type} [bG α] : bG (Pt α) where
  enc:=λx=>[.fp (bG.enc x.v) 0]
  dec:=λl=>match l with|.fp k _::r=>(⟨(bG.dec k).1⟩,r)|_=>(⟨(bG.dec []).1⟩,[])
  ck:=λl=>match l with
    | .fp k 0::r=>match OY (bG.ck (α:=α) k)with|true=>some r|false=>none
    | _=>none
  le:=by
    intro l r hl h;split at h;split at h;rename_i hc;cases h;obtain⟨k',e1,_,p⟩:=bG.le hl.1.cells (QE hc);rw[List.append_nil]at e1;rw[<- e1]at p;exact⟨[_],rfl,rfl,.fp _ _ _ p.length λk x y hx hy=>by
      obtain⟨z,hz,r⟩:=RL.get p k x hx;rw[hy]at hz;cases hz;exact r,trivial⟩
    cases h;cases h
  inv:=by
    intro l m r h hc;split at hc;split at hc
    · rename_i hs;cases hc
      match m,h with
      | y::m,h =>
        obtain⟨h,h2⟩:=h;cases h with
        | fp _ l' _ hl hg =>
          obtain⟨r',e,hr⟩:=bG.inv (α:=α) (Sm.cells (.fp _ _ 0 hl hg)) (QE hs);cases r' with|nil=>exact⟨m,by simp only[e];rfl,h2⟩|cons=>exact hr.elim
        | atom _ h=>cases h
    cases hc;cases hc
  sm a b:=⟨Sm.fp' (bG.sm _ _),trivial⟩
  eq a b:=bG.eq a.v b.v
  eqk h:=⟨.fp _ _ _ (bG.eqk h).length λk x y hx hy=>by
    obtain⟨z,hz,r⟩:=RL.get (bG.eqk h) k x hx;rw[hy]at hz;cases hz;exact r,trivial⟩
abbrev bG.iso {α β : Type} [bG α] (f : α → β) (g : β → α) (hg : ∀ a, g (f a) = a) : bG β where
  enc:=λb=>bG.enc (g b)
  dec:=λl=>(f (bG.dec (α:=α) l).1,(bG.dec (α:=α) l).2)
  ck:=bG.ck (α:=α)
  le:=by
    intro l r hl h;rw[hg];exact bG.le hl h
  inv:=bG.inv
  sm a b:=bG.sm _ _
  eq a b:=bG.eq (g a) (g b)
  eqk h:=bG.eqk h
end Go.Pm
namespace Go.Pm
def JI(b:Bool)(x y:Prop):Prop:=match b with|true=>x|false=>y
theorem qA{b:Bool}{x y:Prop}:JI b x y↔((b=true->x)/\(b=false->y)):=by
 cases b<;>simp[JI]
theorem Ci{b:Bool}{x y:Prop}(h1:b=true->x)(h2:b=false->y):JI b x y:=qA.2 ⟨h1,h2⟩
structure Keep where
  tmps:List Nat
  coT:List (Nat×Nat×Nat)
  coB:List (Nat×Nat×Nat×Nat)
  coV:List (Nat×Nat×Nat×Nat×Nat)
  coF:List Nat
  coZ:List Nat
  nf:List (Nat×Nat×Nat×Nat)
structure dG where
  nt:Nat
  reg:List (Nat×Keep)
  head:List (Nat×Keep)
  cut:List (Nat×Keep)
  unr:List (Nat×Nat×Keep)
  yl:List Nat
  pan:List Nat
def St.setT(σ:St)(t:Nat)(d:DV):St:={σ with env:=(t,d)::σ.env}
def fQ(l:List Nat)(x:Cl):Cl :=
 match x with
 | .vec L=>match l.contains L with|true=>.dead L|false=>.vec L
 | .vptr L s i k=>match l.contains L with|true=>.dead L|false=>.vptr L s i k
 | .mo L=>match l.contains L with|true=>.dead L|false=>.mo L
 | x=>x
def fM(l:List Nat):D1→D1|.c x=>.c (fQ l x)|.agg cs=>.agg (cs.map (fQ l))
def gB(l:List Nat):DV→DV|.one d=>.one (fM l d)|.tup ds=>.tup (ds.map (fM l))
def eY(l:List Nat):AO→AO|.box ty cs=>.box ty (cs.map (fQ l))|o=>o
def kills{α:Type}(f:α→α):List (Nat×α)→List (Nat×α)|[]=>[]|(k,a)::r=>(k,f a)::kills f r
def St.upd(σ:St)(_i:Nat)(dst:Option Nat)(_fp:List (Nat×Bool))(d:DV)(u:List (Nat×AO))(kill:List Nat):St :=
  match kill with
  | [] => { env := match dst with | some t => (t, d) :: σ.env | none => σ.env
            aB:=u++σ.aB
            log:=σ.log}
  | kill => { env := match dst with | some t => (t, d) :: kills (gB kill) σ.env | none => kills (gB kill) σ.env
              aB:=u++kills (eY kill) σ.aB
              log:=σ.log}
def St.skip(σ:St)(dst:Option Nat):St :=
 match dst with|some t=>σ.setT t (.cl .undef)|none=>σ
def dI(nt:Nat):Option Nat→Bool|none=>true|some t=>Nat.blt t nt
def St.relog(σ:St)(l:List (Nat×Nat×Nat)):St:={σ with log:=l++σ.log}
def Oc(σ:St):List Nat→List Nat
  | []=>[]
  | L::_=>(σ.aB.map (·.1)).filter λk=>match lk σ.aB k with|some o=>(oZ o).contains L|none=>false
def JJ(σ:St)(o:Oper)(fp:List (Nat×Bool)):List Nat :=
 (o.op.operands.toList.flatMap λx=>lN (fK σ.env x))++fp.flatMap λx=>match lk σ.aB x.1 with|some ob=>oZ ob|none=>[]
def oH(σ:St)(i:Nat)(o:Oper)(fp:List (Nat×Bool))(kl:List Nat):List (Nat×Nat×Nat) :=
 (fp.map λx=>(i,x.1,match x.2 with|true=>1|false=>0))++((JJ σ o fp).map λL=>(i,L,2))++(kl.map λL=>(i,L,3))++((Oc σ kl).map λL=>(i,L,1))
def ni(A:aJ)(lg:List (Nat×Bool)->List Nat->List (Nat×Nat×Nat))(i:Nat)(dst:Option Nat)(K:St->Prop)(σ:St):Prop :=
 match A with|.no=>False|.val fp d u kl=>K ((σ.upd i dst fp d u kl).relog (lg fp kl))|.chk fp s d u kl=>s.p/\K ((σ.upd i dst fp d u kl).relog (lg fp kl))
section
variable(P:Program)(Γ:bI)
def jV(nt:Nat)(ops:Array Oper):Nat→List Oper→(St→Prop)→St→Prop
  | _,[],K,σ=>K σ
  | i,o::r,K,σ =>
    match dI nt o.dst with
    | false=>False
    | true =>
    match o.guard with
    | none=>ni (act P Γ o (fK σ.env) (lk σ.aB)) (oH σ i o) i o.dst (jV nt ops (i+1) r K) σ
    | some (j,want) =>
      match(ops[j]?).bind (·.dst)with
      | none=>False
      | some g =>
        match lk σ.env g with
        | some (.one (.c (.p (.bool b)))) =>
          JI b
            (match want with|true=>ni (act P Γ o (fK ((g,.bool true)::σ.env)) (lk σ.aB)) (oH (σ.setT g (.bool true)) i o) i o.dst (jV nt ops (i+1) r K) (σ.setT g (.bool true))|false=>jV nt ops (i+1) r K ((σ.setT g (.bool true)).skip o.dst))
            (match want with|true=>jV nt ops (i+1) r K ((σ.setT g (.bool false)).skip o.dst)|false=>ni (act P Γ o (fK ((g,.bool false)::σ.env)) (lk σ.aB)) (oH (σ.setT g (.bool false)) i o) i o.dst (jV nt ops (i+1) r K) (σ.setT g (.bool false)))
        | some (.one (.c .undef))=>jV nt ops (i+1) r K (σ.skip o.dst)
        | _=>False
def AU(ms:List Nat):List Edge→Nat
  | []=>0
  | e::r=>match Region.binds .any e,ms[e.on]? with
    | true,some m=>(2^e.on ||| m) ||| AU ms r
    | _,_=>AU ms r
def masks:List Oper→List Nat→List Nat|[],ms=>ms|o::r,ms=>masks r (ms++[AU ms o.after.toList])
def Yr:Operand→List Nat|.tmp t=>[t]|_=>[]
def gdT(ops:Array Oper)(o:Oper):List Nat :=
 match o.guard with
 | some (j,_)=>match(ops[j]?).bind (·.dst)with|some g=>[g]|none=>[]
 | none=>[]
def tK(ops:Array Oper)(o:Oper):List Nat:=o.op.operands.toList.flatMap Yr++gdT ops o
def meets(l:List Nat)(d:Option Nat):Bool:=match d with|some t=>l.contains t|none=>false
def zaZ(d e:Option Nat):Bool:=match d,e with|some t,some u=>Nat.beq t u|_,_=>false
def JK(ops:Array Oper)(a b:Oper):Bool :=
 meets (tK ops b) a.dst||meets (tK ops a) b.dst||zaZ a.dst b.dst
def AV(ops:Array Oper)(ms:List Nat):Bool :=
 (List.range ops.size).all λj=>(List.range j).all λi =>
  match ops[i]?,ops[j]?,ms[j]? with
  | some a,some b,some m=>!JK ops a b||m.testBit i
  | _,_,_=>false
def JL(ops:Array Oper):Bool :=
 (List.range ops.size).all λi=>match ops[i]? with
  | some o=>o.after.toList.all λe=>!Region.binds .any e||Nat.blt e.on i
  | none=>true
def Yt(k l:Nat):Bool :=
 match k,l with|0,1=>true|1,0=>true|1,1=>true|2,3=>true|3,2=>true|3,3=>true|_,_=>false
def uD(ms:List Nat)(log:List (Nat×Nat×Nat)):Bool :=
 log.all λx=>log.all λy =>
  !Nat.blt x.1 y.1 || !Nat.beq x.2.1 y.2.1 || !Yt x.2.2 y.2.2||(match ms[y.1]? with|some m=>m.testBit x.1|none=>false)
def su(x:Cl):Cl:=match x with | .dead _=>.junk|x=>x
def yc:D1→D1|.c x=>.c (su x)|.agg cs=>.agg (cs.map su)
def QG:DV→DV|.one d=>.one (yc d)|.tup ds=>.tup (ds.map yc)
def IP:AO→AO|.box ty cs=>.box ty (cs.map su)|o=>o
def l7:List (Nat×Nat×Nat)→St→Option St
  | [],σ=>some σ
  | (t,L,e)::r,σ=>match lk σ.env t with
    | some (.one (.c (.p .nils)))=>match lk σ.aB L,P.info? e,gK P e with
      | none,some ie,some _=>match Nat.ble 1 ie.size with|true=>l7 r {env:=(t,.cl (.vec L))::σ.env,aB:=(L,.vec e ie.size ie.bytes 0 (λ_=>Cc P e))::σ.aB,log:=σ.log}|false=>none
      | _,_,_=>none
    | some (.one (.c (.vec _)))=>l7 r σ
    | _=>none
def l9:List (Nat×Nat×Nat×Nat)→St→Option St
  | [],σ=>some σ
  | (B,k,L,e)::r,σ=>match lk σ.aB B with
    | some (.box ty cs)=>match cs[k]? with
      | some (.p .nils)=>match lk σ.aB L,P.info? e,gK P e with
        | none,some ie,some _=>match Nat.ble 1 ie.size with|true=>l9 r {env:=σ.env,aB:=(B,.box ty (cs.set k (.vec L)))::(L,.vec e ie.size ie.bytes 0 (λ_=>Cc P e))::σ.aB,log:=σ.log}|false=>none
        | _,_,_=>none
      | some (.vec _)=>l9 r σ
      | _=>none
    | _=>none
def mf:List (Nat×Nat×Nat×Nat×Nat)→St→Option St
  | [],σ=>some σ
  | (B,k,L,te,e)::r,σ=>match lk σ.aB B with
    | some (.box ty cs)=>match cs[k]? with
      | some (.p .nils)=>match lk σ.aB L,P.info? te,gK P te with
        | none,some it,some _=>match P.info? e,gK P e with
          | some ie,some _=>match Nat.beq it.size 1&&Nat.ble 1 ie.size with|true=>mf r {env:=σ.env,aB:=(B,.box ty (cs.set k (.vec L)))::(L,.vv te it.bytes e ie.size ie.bytes 0 (λ_=>0) (λ_ _=>Cc P e))::σ.aB,log:=σ.log}|false=>none
          | _,_=>none
        | _,_,_=>none
      | some (.vec _)=>mf r σ
      | _=>none
    | _=>none
def xu{α:Type}(f:α→α)(l:List (Nat×α)):List Nat→List (Nat×α)
  | []=>[]
  | t::r=>match lk l t with|some d=>(t,f d)::xu f l r|none=>xu f l r
def AX:List Nat→Nat→List Nat
  | [],x=>[x]
  | y::r,x=>match Nat.beq x y with|true=>y::r|false=>y::AX r x
def zm0(ob:Nat->Option AO)(l:List Nat):List Nat:=l.foldl (λa L=>match ob L with|some o=>(dU o).foldl AX a|none=>a) l
def zwA(ob:Nat->Option AO)(env:List (Nat×DV)):List Nat :=
 zm0 ob (zm0 ob (zm0 ob (zm0 ob (env.foldl (λa x=>(cu x.2).foldl AX a) []))))
def Yu(jc:List Nat)(l:List Nat):Bool:=l.all λL=>jc.contains L
def EY(ob:Nat→Option AO):List Nat→List (Nat×AO)
  | []=>[]
  | L::r=>match ob L with
    | some (.box _ cells)=>match jr ob cells with|some (l,[])=>(L,.fbox l)::EY ob r|_=>EY ob r
    | _=>EY ob r
def Oe(ob:Nat→Option AO):List Nat→List (Nat×AO)
  | []=>[]
  | L::r=>match ob L with|some (.vec _ size _ len get)=>(L,.fvec size len get)::Oe ob r|_=>Oe ob r
def zdo(l:List Nat)(σ:St):St:={env:=σ.env,aB:=(EY (lk σ.aB) l++Oe (lk σ.aB) l)++σ.aB,log:=σ.log}
def zdp(σ:St)(n:Nat):St:=match Nat.ble 1000000 n with
 | false=>σ
 | true=>match lk σ.aB ((n-1000000)/64)with
  | some (.box ty cs)=>match cs[(n-1000000)%64]? with
   | some (.vec L)=>match lk σ.aB L with|some (.vec _ s _ len get)=>{env:=σ.env,aB:=((n-1000000)/64,.box ty (cs.set ((n-1000000)%64) (.p (.sl len s get))))::([(L,.fvec s len get)]++σ.aB),log:=σ.log}|_=>σ
   | _=>σ
  | _=>σ
def coP:List Nat→St→St|[],σ=>σ|n::r,σ=>coP r (zdp σ n)
def mg:List Nat→St→Option St
  | [],σ=>some σ
  | t::r,σ=>match lk σ.env t with
    | some (.one (.c x))=>match x with
      | .p _=>mg r σ
      | _=>match frz (lk σ.aB) x with|some (v,u)=>mg r {env:=(t,.p v)::σ.env,aB:=u++σ.aB,log:=σ.log}|none=>none
    | _=>none
def EZ(e:Nat):Cl→Cl
  | .p .nils=>match pU P e with|some s=>.p (.sl 0 s (λ_=>Cc P e))|none=>.p .nils
  | x=>x
def UD(b:Nat)(f:Cl->Cl)(l:List Cl):List Cl:=match l[b]? with|some x=>l.set b (f x)|none=>l
def Yv{α:Type}(k:Nat)(x:α):List (Nat×α)→List (Nat×α)
  | []=>[]
  | (j,y)::r=>match Nat.beq j k with|true=>(j,x)::r|false=>(j,y)::Yv k x r
def nf1(k a b e:Nat)(σ:St):St :=
 match k with
 | 0=>match lk σ.env a with|some (.one (.c x))=>{env:=Yv a (.one (.c (EZ P e x))) σ.env,aB:=σ.aB,log:=σ.log}|some (.one (.agg cs))=>{env:=Yv a (.one (.agg (UD b (EZ P e) cs))) σ.env,aB:=σ.aB,log:=σ.log}|_=>σ
 | _=>match lk σ.aB a with|some (.box ty cs)=>{env:=σ.env,aB:=Yv a (.box ty (UD b (EZ P e) cs)) σ.aB,log:=σ.log}|_=>σ
def IQ:List (Nat×Nat×Nat×Nat)→St→St|[],σ=>σ|(k,a,b,e)::r,σ=>IQ r (nf1 P k a b e σ)
def yf(k:Keep)(σ:St):Option St :=
  match l7 P k.coT σ with
  | none=>none
  | some σ1=>match l9 P k.coB σ1 with
    | none=>none
    | some σ2=>match mf P k.coV σ2 with
     | none=>none
     | some σ3 =>
      let env:=xu QG σ3.env k.tmps;let jc:=zwA (lk σ3.aB) env;let aB:=xu IP σ3.aB jc
      match(env.all λx=>Yu jc (cu x.2))&&(aB.all λx=>Yu jc (dU x.2))with|true=>some ⟨env,aB,[]⟩|false=>none
def canon(k:Keep)(σ:St):Option St :=
 match mg k.coZ (coP k.coF (zdo k.coF σ))with
 | some s=>match yf P k s with|some s=>some (IQ P k.nf s)|none=>none
 | none=>none
def OZ(aQ:dG)(id:Nat)(ops:Array Oper)(draw:Bool)(K:St->Prop)(σ:St):Prop :=
 match draw with
 | false=>jV P Γ aQ.nt ops 0 ops.toList (λσ'=>match lk aQ.reg id with
   | some k=>match canon P k σ' with|some s=>K s|none=>False
   | none=>K σ') {σ with log:=[]}
 | true=>match P.follows .mixedOrders&&JL ops&&AV ops (masks ops.toList [])with
  | true=>jV P Γ aQ.nt ops 0 ops.toList (λσ'=>match uD (masks ops.toList []) σ'.log with
   | true=>match lk aQ.reg id with
    | some k=>match canon P k σ' with|some s=>K s|none=>False
    | none=>False
   | false=>False) {σ with log:=[]}
  | false=>False
def zdq(aQ:dG)(id:Nat)(K:St->Prop)(σ:St):Prop:=match lk aQ.reg id with
 | some k=>match canon P k σ with|some s=>K s|none=>False
 | none=>K σ
def o7{α:Type}:List α→Option (List α×α)
  | []=>none
  | o::r=>match o7 r with|some (p,l)=>some (o::p,l)|none=>some ([],o)
def zdr(nt:Nat)(m p:Oper):Option (TypeId×Nat×Nat):=match m.op,m.dst,m.guard,p.op,p.guard with
 | .makeInterface ty (.tmp x),some y,none,.panic (.tmp y'),none=>match Nat.beq y y'&&Nat.blt y nt with
  | true=>match P.underlying ty with|some (.struct _)=>some (ty,x,y)|_=>none
  | false=>none
 | _,_,_,_,_=>none
def zds(o:Oper)(σ:St):Option (MK×List XA×List DV×List Nat×List Nat):=match o.op with
 | .call {callee:=.value f,args,argTypes:=_}=>match fK σ.env f with
  | .one (.c (.clo g caps))=>match Γ.mt g with
   | some C=>match jU (zdm g args.size caps) (lk σ.aB) (args.toList.map (fK σ.env)++caps.map capD)with|some (xs,ls,ms)=>some (C,xs,args.toList.map (fK σ.env)++caps.map capD,ls,ms)|none=>none
   | none=>none
  | _=>none
 | _=>none
def Og(i:Nat)(dst:Option Nat)(σ:St):aJ→Option St|.val fp d u kl=>some (σ.upd i dst fp d u kl)|_=>none
def Yw(aQ:dG)(id i:Nat)(o:Oper)(K:Exit->St->Prop)(σ:St):Prop :=
 match o.guard,dI aQ.nt o.dst with
 | none,true=>match zds Γ o σ with
  | some (C,xs,ds,ls,ms)=>match(C xs).o with
   | some (rs,ys)=>match EW rs with
    | none=>match Og i o.dst σ (pV ds (lk σ.aB) ls ms rs ys)with|some σ2=>zdq P aQ id (K .normal) σ2|none=>False
    | some ch=>match Og i none σ (pV ds (lk σ.aB) ls ms rs ys)with|some σ2=>K (.panic ch) σ2|none=>False
   | none=>False
  | none=>False
 | _,_=>False
def zwB(ty:TypeId)(x y:Nat)(K:Exit->St->Prop)(σ:St):Prop:=match lk σ.env x with|some (.one (.agg [.p (.int k n)]))=>K (.panic (zmU ty k n)) ⟨(y,.junk)::σ.env,σ.aB,[]⟩|_=>False
def JM(aQ:dG)(id:Nat)(ops:Array Oper)(K:Exit->St->Prop)(σ:St):Prop :=
 match o7 ops.toList with
 | some (p1,l)=>match o7 p1 with
  | some (pre,m)=>match zdr P aQ.nt m l with
   | some (ty,x,y)=>jV P Γ aQ.nt ops 0 pre (zwB ty x y K) {σ with log:=[]}
   | none=>jV P Γ aQ.nt ops 0 p1 (Yw P Γ aQ id p1.length l K) {σ with log:=[]}
  | none=>False
 | none=>False
def jF:Code→Nat
  | .region id _ _=>id
  | .seq a _=>jF a
  | .block _ b=>jF b
  | .loop b=>jF b
  | .scope b=>jF b
  | .cond _ a b=>match Nat.beq (jF a) 1000000 with|true=>jF b|false=>jF a
  | _=>1000000
def zm1(aQ:dG)(r:Nat)(go:St->Prop)(σ:St):Prop :=
 match lk aQ.cut r with
 | some k=>match canon P k σ with|some s=>go s|none=>False
 | none=>go σ
def zdt(next:St→Prop)(K:Exit→St→Prop):Exit→St→Prop
  | .normal,σ=>next σ
  | e,σ=>K e σ
def Yx(id:Nat)(K:Exit→St→Prop):Exit→St→Prop
  | .exit i,σ=>match Nat.beq i id with|true=>K .normal σ|false=>K (.exit i) σ
  | e,σ=>K e σ
def zwC(K:Exit→St→Prop):Exit→St→Prop|.goto _,_=>False|e,σ=>K e σ
def zgE(aQ:dG)(id:Nat)(X:St→Prop)(K:Exit→St→Prop):Exit→St→Prop
  | .normal,σ=>match lk aQ.head id with
    | some k=>match canon P k σ with|some s=>X s|none=>False
    | none=>False
  | e,σ=>K e σ
def xw(σ:St)(c:Operand)(b:Bool):St:=match c with | .tmp t=>σ.setT t (.bool b)|_=>σ
def zdu(k:Keep)(step:(Exit→St→Prop)→St→Prop):Nat→(Exit→St→Prop)→St→Prop
  | 0,_,_=>False
  | n+1,K,σ=>match canon P k σ with
    | some s=>step (λe σ'=>match e with | .normal=>zdu k step n K σ'|e=>K e σ') s
    | none=>False
def Iq:List Oper→List Nat
  | []=>[]
  | o::r=>match o.dst with|some t=>t::Iq r|none=>Iq r
def Gw:Nat:=4294967296
def eu:Code→List Nat|.region _ ops _=>Iq ops.toList|.seq a b=>eu a++eu b|.cond _ a b=>eu a++eu b|.block _ b=>eu b|.loop b=>eu b|.scope b=>eu b|.rangeFunc _ _ a b=>Gw::(eu a++eu b)|_=>[]
def Yy(a b:Code):Nat:=match Nat.beq (jF a) 1000000 with|true=>jF b|false=>jF a
def nM(l m:List Nat):Bool:=l.all λt=>!m.contains t
def pW:List Nat→List PA→List (Nat×DV)→Option (List (Nat×DV))|[],[],e=>some e|p::ps,y::ys,e=>pW ps ys ((p,.one (IM y))::e)|_,_,_=>none
def tN(k:Keep)(np:Bool)(next:St→Prop)(K:Exit→St→Prop):Exit→St→Prop
  | .normal,σ=>match canon P k σ with|some s=>next s|none=>False
  | .ret,σ=>match canon P k σ with|some s=>K .ret s|none=>False
  | .exit id,σ=>match canon P k σ with|some s=>K (.exit id) s|none=>False
  | .panic ch,σ=>match np,canon P k σ with|true,some s=>K (.panic ch) s|_,_=>False
  | _,_=>False
def vc(aQ:dG):Code→(Exit→St→Prop)→St→Prop
  | .skip,K,σ=>K .normal σ
  | .region id ops draw,K,σ=>match aQ.pan.contains id && !draw with|false=>OZ P Γ aQ id ops draw (K .normal) σ|true=>JM P Γ aQ id ops K σ
  | .seq a b,K,σ=>vc aQ a (zdt (zm1 P aQ (jF b) (vc aQ b K)) K) σ
  | .cond c a b,K,σ=>match fK σ.env c with|.one (.c (.p (.bool t)))=>JI t (vc aQ a K (xw σ c true)) (vc aQ b K (xw σ c false))|_=>False
  | .block id b,K,σ=>vc aQ b (Yx id K) σ
  | .loop b,K,σ=>match lk aQ.head (jF b)with
    | some k=>match canon P k σ with|some s=>∀X:St->Prop,(∀s,vc aQ b (zgE P aQ (jF b) X K) s->X s)->X s|none=>False
    | none=>match lk aQ.unr (jF b)with|some (n,k)=>zdu P k (vc aQ b) n K σ|none=>False
  | .rangeFunc f ps assign body,K,σ=>match lk aQ.head (Yy assign body)with
    | some k=>match canon P k σ,nM k.tmps (ps.toList++(eu assign++eu body))&&ps.toList.all (λp=>Nat.blt p aQ.nt)with
      | some s,true=>match fK s.env f with
        | .one (.c (.p (.fn gf [] caps)))=>match(Γ.it gf (caps.map .one)).o with
          | some ys=>∀X:List (List PA)->St->Prop,(∀s,K .normal s->X [] s) ->
            (∀y rest s,(match pW ps.toList y s.env with|some env=>vc aQ assign (zdt (vc aQ body (tN P k (nM [Gw] (eu assign++eu body)) (X rest) K)) λ_ _=>False) ⟨env,s.aB,[]⟩|none=>False)->X (y::rest) s)->X ys s
          | none=>False
        | _=>False
      | _,_=>False
    | none=>False
  | .exit id,K,σ=>K (.exit id) σ
  | .scope b,K,σ=>vc aQ b (zwC K) σ
  | .label _,K,σ=>K .normal σ
  | .ret,K,σ=>K .ret σ
  | _,_,_=>False
def kK(σ:St):List ResultVar→Option (List PA)
  | []=>some []
  | .tmp t::r=>match lk σ.env t with
    | some d=>match zN (lk σ.aB) d,kK σ r with|some (x,_),some l=>some (x::l)|_,_=>none
    | none=>none
  | .cell t ty::r=>match lk σ.env t,jq P ty,pU P ty with
    | some (.one (.c (.ptr L off))),some g,some n=>match lk σ.aB L with
      | some (.box _ cells)=>match nI g n cells off with
        | some d=>match zN (lk σ.aB) (.one d),kK σ r with|some (x,_),some l=>some (x::l)|_,_=>none
        | none=>none
      | _=>none
    | _,_,_=>none
def AY(fn:Func)(K:List PA->Prop)(σ:St):Prop :=
 match kK P σ fn.results.toList with|some l=>K l|none=>False
def zgF(fn:Func)(K:List PA→Prop):Exit→St→Prop|.ret,σ=>AY P fn K σ|.normal,σ=>AY P fn K σ|_,_=>False
def jd:Nat→List PA→List (Nat×DV)|_,[]=>[]|i,x::r=>(i,.one (IM x))::jd (i+1) r
def vcFun(aQ:dG)(f:FuncId)(args:List PA)(K:List PA->Prop):Prop :=
 match P.funcs[f]? with
 | some fn=>match fn.body with
  | some c=>match Nat.beq aQ.nt fn.ntmps&&Nat.ble args.length aQ.nt with|true=>vc P Γ aQ c (zgF P fn K) ⟨jd 0 args,[],[]⟩|false=>False
  | none=>False
 | none=>False
def O0(fn:Func)(e s b:Nat)(K:List PA->Prop)(σ:St):Prop :=
 match fn.results.toList with
 | [.tmp t]=>match lk σ.env t with
  | some (.one (.c (.vec L)))=>match lk σ.aB L with
   | some (.vec e' s' b' n get)=>match Nat.beq e e'&&(Nat.beq s s'&&Nat.beq b b')with|true=>K [.one (.sl n s get)]|false=>False
   | _=>False
  | _=>False
 | [.tmp t,.tmp u]=>match lk σ.env t with
  | some (.one (.c (.vec L)))=>match lk σ.env u with
   | some (.one (.c (.p x)))=>match lk σ.aB L with
    | some (.vec e' s' b' n get)=>match Nat.beq e e'&&(Nat.beq s s'&&Nat.beq b b')with|true=>K [.one (.sl n s get),.one x]|false=>False
    | _=>False
   | _=>False
  | _=>False
 | _=>False
def zgG(fn:Func)(e s b:Nat)(K:List PA→Prop):Exit→St→Prop|.ret,σ=>O0 fn e s b K σ|.normal,σ=>O0 fn e s b K σ|_,_=>False
def za0(aQ:dG)(f:FuncId)(args:List PA)(e s b:Nat)(K:List PA->Prop):Prop :=
 match P.funcs[f]? with
 | some fn=>match fn.body with
  | some c=>match Nat.beq aQ.nt fn.ntmps&&Nat.ble args.length aQ.nt with|true=>vc P Γ aQ c (zgG fn e s b K) ⟨jd 0 args,[],[]⟩|false=>False
  | none=>False
 | none=>False
/-! Iterators: functions that take yield. -/
abbrev YK:=Exit->List (List PA)->Bool->St->Prop
def qK:List DV→Option (List PA)
  | []=>some []
  | .one (.c (.p v))::r=>match qK r with|some l=>some (.one v::l)|none=>none
  | .one (.agg cs)::r=>match jT cs,qK r with|some l,some m=>some (.agg l::m)|_,_=>none
  | _::_=>none
def O1(ob:Nat→Option AO):List Nat→List (Nat×AO)
  | []=>[]
  | L::r=>match ob L with|some (.fbox l)=>(L,.fbox l)::O1 ob r|_=>O1 ob r
abbrev UE:Nat:=4095
def JO(σ:St):List (Nat×AO):=EY (lk σ.aB) (σ.aB.map (·.1))++O1 (lk σ.aB) (σ.aB.map (·.1))
def hasAll(ks:List Nat)(l:List Nat):Bool:=l.all λL=>ks.contains L
def vT(ks:List Nat)(l:List (Nat×DV)):List Nat→List (Nat×DV)
  | []=>[]
  | t::r=>match lk l t with
    | some d=>match hasAll ks (cu d)with|true=>(t,d)::vT ks l r|false=>vT ks l r
    | none=>vT ks l r
def zh(σ:St):St:=⟨vT (UE::(JO σ).map (·.1)) σ.env (σ.env.map (·.1)),(UE,.gone)::JO σ,[]⟩
def zm2(σ:St)(o:Oper):Option (Array Operand×Nat) :=
 match o.op,o.dst with
 | .call {callee:=.value f,args,argTypes:=_},some t=>match fK σ.env f with
  | .one (.c (.vec 4095))=>match lk σ.env 0 with|some (.one (.c (.vec 4095)))=>some (args,t)|_=>none
  | _=>none
 | _,_=>none
def vU(nt:Nat)(o:Oper)(next:List (List PA)->Bool->St->Prop)(ys:List (List PA))(q:Bool)(σ:St):Prop :=
 match zm2 σ o with
 | some (args,t)=>match qK (args.toList.map (fK σ.env)),Nat.blt t nt,q with
  | some y,true,false=>∃rest,ys=y::rest/\next rest false ((zh σ).setT t (.bool true))/\next rest true ((zh σ).setT t (.bool false))
  | _,_,_=>False
 | none=>match dI nt o.dst with
  | true=>ni (act P Γ o (fK σ.env) (lk σ.aB)) (λ_ _=>[]) 0 o.dst (next ys q) σ
  | false=>False
def lH(nt:Nat)(ops:Array Oper):List Oper→(List (List PA)→Bool→St→Prop)→List (List PA)→Bool→St→Prop
  | [],K,ys,q,σ=>K ys q σ
  | o::r,K,ys,q,σ=>match o.guard with
    | none=>vU P Γ nt o (lH nt ops r K) ys q σ
    | some (j,want)=>match dI nt o.dst,(ops[j]?).bind (·.dst)with
      | true,some g=>match lk σ.env g with
        | some (.one (.c (.p (.bool b)))) => JI b
            (match want with|true=>vU P Γ nt o (lH nt ops r K) ys q (σ.setT g (.bool true))|false=>lH nt ops r K ys q ((σ.setT g (.bool true)).skip o.dst))
            (match want with|true=>lH nt ops r K ys q ((σ.setT g (.bool false)).skip o.dst)|false=>vU P Γ nt o (lH nt ops r K) ys q (σ.setT g (.bool false)))
        | some (.one (.c .undef))=>lH nt ops r K ys q (σ.skip o.dst)
        | _=>False
      | _,_=>False
def zwD(next:List (List PA)→Bool→St→Prop)(K:YK):YK
  | .normal,ys,q,σ=>next ys q σ
  | e,ys,q,σ=>K e ys q σ
def Yz(id:Nat)(K:YK):YK
  | .exit i,ys,q,σ=>match Nat.beq i id with|true=>K .normal ys q σ|false=>K (.exit i) ys q σ
  | e,ys,q,σ=>K e ys q σ
def zwE(K:YK):YK|.goto _,_,_,_=>False|e,ys,q,σ=>K e ys q σ
def zgH(aQ:dG)(id:Nat)(X:List (List PA)→Bool→St→Prop)(K:YK):YK
  | .normal,ys,q,σ=>match lk aQ.head id with
    | some k=>match canon P k σ with|some s=>X ys q s|none=>False
    | none=>False
  | e,ys,q,σ=>K e ys q σ
def O3(k:Keep)(step:YK→List (List PA)→Bool→St→Prop):Nat→YK→List (List PA)→Bool→St→Prop
  | 0,_,_,_,_=>False
  | n+1,K,ys,q,σ=>match canon P k σ with
    | some s=>step (λe pR q' σ'=>match e with | .normal=>O3 k step n K pR q' σ'|e=>K e pR q' σ') ys q s
    | none=>False
def zwF(aQ:dG)(r:Nat)(go:List (List PA)->Bool->St->Prop)(ys:List (List PA))(q:Bool)(σ:St):Prop :=
 match lk aQ.cut r with
 | some k=>match canon P k σ with|some s=>go ys q s|none=>False
 | none=>go ys q σ
def QH(aQ:dG):Code→YK→List (List PA)→Bool→St→Prop
  | .skip,K,ys,q,σ=>K .normal ys q σ
  | .region id ops draw,K,ys,q,σ=>match(Iq ops.toList).contains 0,aQ.yl.contains id,draw with
    | true,_,_=>False
    | false,true,false=>lH P Γ aQ.nt ops ops.toList (λpR q' σ'=>match lk aQ.reg id with
      | some k=>match canon P k σ' with|some s=>K .normal pR q' s|none=>False
      | none=>K .normal pR q' {σ' with log:=[]}) ys q {σ with log:=[]}
    | false,true,true=>False
    | false,false,_=>OZ P Γ aQ id ops draw (K .normal ys q) σ
  | .seq a b,K,ys,q,σ=>QH aQ a (zwD (zwF P aQ (jF b) (QH aQ b K)) K) ys q σ
  | .cond c a b,K,ys,q,σ=>match fK σ.env c with|.one (.c (.p (.bool t)))=>JI t (QH aQ a K ys q (xw σ c true)) (QH aQ b K ys q (xw σ c false))|_=>False
  | .block id b,K,ys,q,σ=>QH aQ b (Yz id K) ys q σ
  | .loop b,K,ys,q,σ=>match lk aQ.head (jF b)with
    | some k=>match canon P k σ with|some s=>∀X:List (List PA)->Bool->St->Prop,(∀ys q s,QH aQ b (zgH P aQ (jF b) X K) ys q s->X ys q s)->X ys q s|none=>False
    | none=>match lk aQ.unr (jF b)with|some (n,k)=>O3 P k (QH aQ b) n K ys q σ|none=>False
  | .exit id,K,ys,q,σ=>K (.exit id) ys q σ
  | .scope b,K,ys,q,σ=>QH aQ b (zwE K) ys q σ
  | .label _,K,ys,q,σ=>K .normal ys q σ
  | .ret,K,ys,q,σ=>K .ret ys q σ
  | _,_,_,_,_=>False
def zgI(ys:List (List PA))(q:Bool):Prop:=match q with|true=>True|false=>ys=[]
def zE8:YK|.ret,ys,q,_=>zgI ys q|.normal,ys,q,_=>zgI ys q|_,_,_,_=>False
def QI(aQ:dG)(f:FuncId)(caps:List PA)(ys:List (List PA)):Prop :=
 match P.funcs[f]? with
 | some fn=>match fn.body with
  | some c=>match Nat.beq aQ.nt fn.ntmps&&Nat.ble (caps.length+1) aQ.nt&&fn.results.isEmpty with|true=>QH P Γ aQ c zE8 ys false ⟨(0,.cl (.vec UE))::jd 1 caps,[(UE,.gone)],[]⟩|false=>False
  | none=>False
 | none=>False
end
end Go.Pm
namespace Go.Pm
open Go.RowKit (Below)
theorem lI{α:Type}(l:List α)(off:Nat)(l':List α):(spl l off l').length=l.length:=by
 induction l' generalizing l off with|nil=>rfl|cons x r ih=>simp[spl,ih]
inductive UF where
  | fz (o:Obj)
  | pin (o:Obj)
def sD(l:List Int):Value:=.agg (l.map λn=>Value.int .i64 n).toArray
def UF.ok:UF→Obj→Prop|.fz o,x=>x=o|.pin o,x=>x=o
abbrev Fz:=Nat->Option UF
def Hw(h:Fz)(w:World):Prop:=∀b x,h b=some x->∃o,w.heap[b]? = some o/\x.ok o
theorem Hw.fz{h:Fz}{w:World}(H:Hw h w){b:Nat}{o:Obj}(hb:h b=some (.fz o)):w.heap[b]? = some o:=by
 obtain⟨o',h1,h2⟩:=H b _ hb;simp only[UF.ok]at h2;subst h2;exact h1
theorem Hw.lt{h:Fz}{w:World}(H:Hw h w){b:Nat}{x:UF}(hb:h b=some x):b<w.heap.size:=by
 obtain⟨o',h1,_⟩:=H b _ hb;exact(Us.1 h1).1
theorem Hw.same{h:Fz}{w w':World}(H:Hw h w)(hs:∀b x,h b=some x->w'.heap[b]? = w.heap[b]?):Hw h w':=λb x hb=>by
 obtain⟨o,h1,h2⟩:=H b x hb;exact⟨o,by rw[hs b x hb];exact h1,h2⟩
class aH where
  z:Nat
variable [aH]
abbrev ztE:Nat:=aH.z
abbrev dle(a b:Nat):Prop:=a*ztE<=b*ztE
theorem JP{a b:Nat}(h:a<=b):dle a b:=Qz _ h
structure xx (h : Fz) (B : Nat) (w w' : World) : Prop where
  os:w'.os=w.os
  tape:w'.tape=w.tape
  output:w'.output=w.output
  size:w.heap.size<=w'.heap.size
  drawn:dle w.drawn w'.drawn
  block:∀k,k<B->w'.heap[k]? = w.heap[k]?
structure JR (B : Nat) (w w' : World) : Prop extends Below B w w' where
  drawn:dle w.drawn w'.drawn
structure GrB (w w' : World) (row : Option Nat) : Prop extends w.grownBy w' row where
  drawn:dle w.drawn w'.drawn
theorem JR.refl(B:Nat)(w:World):JR B w w:=⟨Below.refl B w,kw _⟩
theorem xx.of{h:Fz}{B:Nat}{w w':World}(b:JR B w w'):xx h B w w':=⟨b.os,b.tape,b.output,b.size,b.drawn,λk hk=>b.block k hk⟩
theorem xx.refl(h:Fz)(B:Nat)(w:World):xx h B w w:=.of (.refl B w)
theorem xx.trans{h:Fz}{B:Nat}{a b c:World}(x:xx h B a b)(y:xx h B b c):xx h B a c :=
 ⟨y.os.trans x.os,y.tape.trans x.tape,y.output.trans x.output,Gv x.size y.size,Gv x.drawn y.drawn,λi hi=>(y.block i hi).trans (x.block i hi)⟩
theorem xx.drew{h:Fz}{B:Nat}{a w:World}(x:xx h B a w):xx h B a w.drew:=⟨x.os,x.tape,x.output,x.size,Gv x.drawn (JP (Nat.le_succ _)),x.block⟩
def fC(kf:KF)(c:List Int):Value:=match kf with|.ints=>sD c|.one=>.int .i64 (c.headD 0)
def cellV:Option IntKind→Int→Value|some k,x=>.int k x|none,x=>.bool (x != 0)
def qL(o:Option (List Int)):Nat→List (Option IntKind)→List Value|_,[]=>[]|i,k::ks=>cellV k (xX o i)::qL o (i+1) ks
def lQ(xR:Bool)(ks:List (Option IntKind))(o:Option (List Int)):Value:=match xR with|true=>.agg (qL o 0 ks).toArray|false=>(qL o 0 ks).headD undef
def ny(c:List Int):List (List Int×List Int)→Option (List Int)
  | []=>none
  | (k,v)::r=>if k=c then some v else ny c r
structure MoE (q : MQ) (n : Nat) (F : List Int → Option (List Int)) (es : Array MapEntry) (clock : Nat) (en : List (List Int × List Int)) : Prop where
  one:q.1=.one->q.2.1=1
  vone:q.2.2.1=false->q.2.2.2.length=1
  ents:es.toList.map (λe=>(e.key,e.val))=en.map (λx=>(fC q.1 x.1,lQ q.2.2.1 q.2.2.2 (some x.2)))
  len:∀x∈en,x.1.length=q.2.1/\x.2.length=q.2.2.2.length
  nodup:(en.map (·.1)).Nodup
  find:∀c,c.length=q.2.1->F c=ny c en
  size:n=en.length
  born:∀e∈es.toList,e.born<clock
  bornN:(es.toList.map (·.born)).Nodup
def moE(q:MQ)(n:Nat)(F:List Int->Option (List Int))(es:Array MapEntry)(clock:Nat):Prop:=∃en,MoE q n F es clock en
inductive Rep(h:Fz):PV→Value→Prop
  | bool (b:Bool):Rep h (.bool b) (.bool b)
  | int (k:IntKind) (n:Int):Rep h (.int k n) (.int k n)
  | nilp:Rep h .nilp (.pointer none)
  | nilf:Rep h .nilf .nilFunc
  | nilm:Rep h .nilm (.map none)
  | nils:Rep h .nils (.slice none 0 0)
  | fp (cells:List PV) (off b o:Nat) (C:Array Value) (ty:TypeId) (fr:Nat×Nat) (vs:Nat→Value) (hb:h b=some (.fz (.cells C ty fr)))
      (hc:∀j x,cells[j]? = some x->C[o+j]? = some (vs j)) (hr:∀j x,cells[j]? = some x->Rep h x (vs j)) :
      Rep h (.fp cells off) (.pointer (some ⟨b,o+off,none⟩))
  | sl0 (size:Nat) (get:Nat->List PV) (hu:tH get):Rep h (.sl 0 size get) (.slice none 0 0)
  | sle (size:Nat) (get:Nat->List PV) (a:Addr) (cap:Nat) (hu:tH get):Rep h (.sl 0 size get) (.slice (some a) 0 cap)
  | sl (len size:Nat) (get:Nat→List PV) (hu:tH get) (b o cap:Nat) (C:Array Value) (ty:TypeId) (fr:Nat×Nat) (vs:Nat→Nat→Value) (hb:h b=some (.fz (.cells C ty fr)))
      (ku:len<=cap) (hlen:∀i,i<len->(get i).length=size)
      (hc:∀i j x,i<len->(get i)[j]? = some x->C[o+i*size+j]? = some (vs i j))
      (hr:∀i j x,i<len->(get i)[j]? = some x->Rep h x (vs i j)) :
      Rep h (.sl len size get) (.slice (some ⟨b,o,none⟩) len cap)
  | fn (f:FuncId) (first caps:List PV) (fv cv:List Value) (h1:first.length=fv.length) (h2:caps.length=cv.length)
      (hf:∀(j:Nat)(x:PV)(v:Value),first[j]? = some x->fv[j]? = some v->Rep h x v) (hc:∀(j:Nat)(x:PV)(v:Value),caps[j]? = some x->cv[j]? = some v->Rep h x v) :
      Rep h (.fn f first caps) (.func (.func f) fv.toArray cv.toArray)
  | fna (f:FuncId) (cells:List PV) (vs:List Value) (h1:cells.length=vs.length)
      (hc:∀(j:Nat)(x:PV)(v:Value),cells[j]? = some x->vs[j]? = some v->Rep h x v):Rep h (.fna f cells) (.func (.func f) #[.agg vs.toArray] #[])
def jP(h h':Fz):Prop:=∀b o,h b=some o->h' b=some o
theorem Rep.mono{h h':Fz}(hl:jP h h'){p:PV}{v:Value}(r:Rep h p v):Rep h' p v:=by
 induction r with
 | bool b=>exact .bool b
 | int k n=>exact .int k n
 | nilp=>exact .nilp
 | nilf=>exact .nilf
 | nilm=>exact .nilm
 | nils=>exact .nils
 | fp cells off b o C ty fr vs hb hc hr ih=>exact .fp cells off b o C ty fr vs (hl _ _ hb) hc ih
 | sl0 size get hu=>exact .sl0 size get hu
 | sle size get a cap hu=>exact .sle size get a cap hu
 | sl len size get hu b o cap C ty fr vs hb ku hlen hc hr ih=>exact .sl len size get hu b o cap C ty fr vs (hl _ _ hb) ku hlen hc ih
 | fn f first caps fv cv h1 h2 hf hc ih1 ih2=>exact .fn f first caps fv cv h1 h2 ih1 ih2
 | fna f cells vs h1 hc ih=>exact .fna f cells vs h1 ih
theorem Rep.mono'{h h':Fz}(hl:∀b o,h b=some o->(∃C ty fr,o=.fz (.cells C ty fr))->h' b=some o){p:PV}{v:Value}(r:Rep h p v):Rep h' p v:=by
 induction r with
 | bool b=>exact .bool b
 | int k n=>exact .int k n
 | nilp=>exact .nilp
 | nilf=>exact .nilf
 | nilm=>exact .nilm
 | nils=>exact .nils
 | fp cells off b o C ty fr vs hb hc hr ih=>exact .fp cells off b o C ty fr vs (hl _ _ hb ⟨_,_,_,rfl⟩) hc ih
 | sl0 size get hu=>exact .sl0 size get hu
 | sle size get a cap hu=>exact .sle size get a cap hu
 | sl len size get hu b o cap C ty fr vs hb ku hlen hc hr ih=>exact .sl len size get hu b o cap C ty fr vs (hl _ _ hb ⟨_,_,_,rfl⟩) ku hlen hc ih
 | fn f first caps fv cv h1 h2 hf hc ih1 ih2=>exact .fn f first caps fv cv h1 h2 ih1 ih2
 | fna f cells vs h1 hc ih=>exact .fna f cells vs h1 ih
theorem Rep.un{h:Fz}{p:PV}{v:Value}(r:Rep h p v):Sm p p:=by
 induction r with|bool b=>exact .bool _ _|int k n=>exact .int _ _ _|sl0 size get hu=>exact tH.sl hu _ _ _|sle size get a cap hu=>exact tH.sl hu _ _ _|sl len size get hu=>exact tH.sl hu _ _ _|fp cells off b o C ty fr vs hb hc hr ih=>exact .fp _ _ _ rfl λk x y hx hy=>by rw[hx]at hy;cases hy;exact ih k x hx|_=>exact .atom _ rfl
theorem yg{h:Fz}:∀{l:List PV}{vs:List Value},RL (Rep h) l vs→RS l l|[],[],_=>trivial|_::_,_::_,r=>⟨r.1.un,yg r.2⟩
theorem Rep.up{h:Fz}{p q:PV}(e:o6 p q):∀{v:Value},Rep h p v->Rep h q v:=by
 induction e with
 | rfl p=>exact λr=>r
 | nil s g hu=>intro v r;cases r;exact .sl0 s g hu
 | sl n s g g' hu hl he ih =>
  intro v r;cases r with
  | sl0=>exact .sl0 _ _ hu
  | sle=>exact .sle _ _ _ _ hu
  | sl _ _ _ _ b o cap C ty fr vs hb ku hlen hc hr =>
   refine .sl n s g' hu b o cap C ty fr vs hb ku (λi hi=>(hl i hi).symm.trans (hlen i hi)) (λi j x hi hx=>?_) λi j x hi hx=>?_;obtain⟨y,hy⟩:=ou (hl i hi).symm hx;exact hc i j y hi hy;obtain⟨y,hy⟩:=ou (hl i hi).symm hx;exact ih i j y x hi hy hx (hr i j y hi hy)
 | fp l l' off hl he ih =>
  intro v r;cases r with
  | fp _ _ b o C ty fr vs hb hc hr =>
   refine .fp l' off b o C ty fr vs hb (λj x hx=>?_) λj x hx=>?_;obtain⟨y,hy⟩:=ou hl.symm hx;exact hc j y hy;obtain⟨y,hy⟩:=ou hl.symm hx;exact ih j y x hy hx (hr j y hy)
 | fn f a a' l l' ha _ hl _ ih0 ih =>
  intro v r;cases r with
  | fn _ _ _ fv cv h1 h2 hf hc =>
   refine .fn f a' l' fv cv (ha.symm.trans h1) (hl.symm.trans h2) (λj x v hx hv=>?_) λj x v hx hv=>?_;obtain⟨y,hy⟩:=ou ha.symm hx;exact ih0 j y x hy hx (hf j y v hy hv);obtain⟨y,hy⟩:=ou hl.symm hx;exact ih j y x hy hx (hc j y v hy hv)
theorem AZ{h:Fz}{l m:List PV}(e:RL o6 l m){vs:List Value}(r:RL (Rep h) l vs):RL (Rep h) m vs:=by
 induction l generalizing m vs with
 | nil=>cases m with|nil=>exact r|cons=>exact e.elim
 | cons x l ih=>cases m with
  | nil=>exact e.elim
  | cons y m=>cases vs with|nil=>exact r.elim|cons v vs=>exact⟨r.1.up e.1,ih e.2 r.2⟩
theorem zdv{v:Value}{p:PV}(h:vP v=some p):Sm p p:=by
 unfold vP at h;split at h<;>cases h<;>first|exact .atom _ rfl|exact .bool _ _|exact .int _ _ _
theorem O4:∀{l:List Value}{z:List Cl}{m:List PV},jo l=some z→jT z=some m→RS m m
  | [],z,m,h,h'=>by cases h;cases h';trivial
  | v::r,z,m,h,h'=>by
    simp only[jo]at h;split at h;rename_i x l hx hl;cases h;simp only[jT]at h';split at h';rename_i k hk;cases h';exact⟨zdv hx,O4 hl hk⟩;cases h';cases h
theorem IR{P:Program}{t:TypeId}{z:List Cl}{m:List PV}(h:gK P t=some z)(h':jT z=some m):RS m m:=by
 unfold gK at h;split at h;split at h;split at h;rename_i hl;split at h;cases h;exact O4 hl h';cases h;cases h;cases h;cases h
theorem O5{P:Program}{h:Fz}{t k:Nat}{l:List PV}{vs:List Value}(r:RL (Rep h) l vs):RL (Rep h) (zaX P t k l) vs:=by
 unfold zaX;split;rename_i hk;split;rename_i s _ _ hz;split;rename_i z' hz';obtain⟨v,hv,hr⟩:=r.get k _ hk;have hvn:v=.slice none 0 0:=by cases hr;rfl
 subst hvn;have:=r.set k (a:=.sl 0 s (λ_=>z')) (b:=Value.slice none 0 0) (Rep.sl0 _ _ (JH (IR hz hz')));have e:vs.set k (.slice none 0 0)=vs:=by
  obtain⟨iw,hv⟩:=AL.1 hv;rw[<- hv,jqx]
 rwa[e]at this;exact r;exact r;exact r
theorem O6{P:Program}{h:Fz}:∀(fs:List Field){l:List PV}{vs:List Value},RL (Rep h) l vs→RL (Rep h) (zgA P fs l) vs|[],_,_,r=>r|_::fs,_,_,r=>O6 fs (O5 r)
theorem uF{P:Program}{h:Fz}{e:TypeId}{l:List PV}{vs:List Value}(r:RL (Rep h) l vs):RL (Rep h) (zO P e l) vs:=by
 unfold zO;split;exact O6 _ r;exact O5 r
theorem Rep.one{h:Fz}{p:PV}{v:Value}(r:Rep h p v):v.oneCell'=true:=by
 cases r<;>first|rfl|(rename_i r;cases r<;>rfl)
structure Gh where
  h:Fz
  bk:Nat->Nat
  sv:Nat->Value
  iv:Nat->Nat->Value
def Ir(g:Gh):sZ→Value→Prop|.v p,x=>Rep g.h p x|.b L,x=>x=.pointer (some ⟨g.bk L,0,none⟩)
def oI:Value→Nat|.map (some b)=>b|_=>0
def ja(g:Gh):Cl→Value→Prop|.p v,x=>Rep g.h v x|.ptr L off,x=>x=.pointer (some ⟨g.bk L,off,none⟩)|.vptr L s i k,x=>∃b,(g.sv L).ownBlock=some b/\x=.pointer (some ⟨b,i*s+k,none⟩)|.vec L,x=>x=g.sv L/\x.oneCell'=true|.mo L,x=>x=.map (some (oI (g.sv L)))|.clo f caps,x=>∃cv:List Value,x=.func (.func f) #[] cv.toArray/\RL (Ir g) caps cv|.undef,x=>x=undef|.junk,_=>True|.dead _,_=>True
theorem qB{g g':Gh}(hl:∀p x,Rep g.h p x→Rep g'.h p x):∀{caps:List sZ}{vs:List Value},(∀L∈lF caps,g'.bk L=g.bk L)→RL (Ir g) caps vs→RL (Ir g') caps vs|[],[],_,_=>trivial|[],_::_,_,h=>h.elim|_::_,[],_,h=>h.elim|.v p::_,_::_,hb,h=>⟨hl _ _ h.1,qB hl (λL hL=>hb L hL) h.2⟩|.b M::_,_::_,hb,h=>⟨by have:=h.1;simp only[Ir]at this ⊢;rw[hb M (by simp[lF])];exact this,qB hl (λL hL=>hb L (by simp[lF,hL])) h.2⟩
theorem za1{g:Gh}{c:Cl}{x:Value}(h:ja g c x)(ho:BV c=true):x.oneCell'=true:=by
 cases c with
 | p v=>exact Rep.one h
 | ptr L off=>subst h;rfl
 | vptr L s i k=>obtain⟨b,_,rfl⟩:=h;rfl
 | vec L=>exact h.2
 | mo L=>subst h;rfl
 | clo f caps=>obtain⟨cv,rfl,_⟩:=h;rfl
 | undef=>cases ho
 | junk=>cases ho
 | dead L=>cases ho
def Ai(g:Gh):D1→Value→Prop|.c x,v=>ja g x v|.agg cs,v=>∃vs:List Value,v=.agg vs.toArray/\RL (ja g) cs vs
def qM(g:Gh):DV→Value→Prop|.one d,v=>Ai g d v|.tup ds,v=>∃vs:List Value,v=.tuple vs.toArray/\RL (Ai g) ds vs
def Cj(P:Program)(g:Gh)(w:World)(B L e s b n:Nat)(get:Nat->List PV):Prop :=
 (tH get/\0<s)/\(∃i z,P.info? e=some i/\i.size=s/\i.bytes=b/\i.zero=some z/\z.cells.size=s) /\
 ∃xs:List Value,w.ownsRow B e s (g.sv L) n xs/\(∀i,i<n->RL (Rep g.h) (get i) ((xs.drop (i*s)).take s))
def Unv(get:Nat->Nat->List PV):Prop:=∀i j k l,RS (get i j) (get k l)
def vvR(P:Program)(g:Gh)(w:World)(B L te bb e s b n:Nat)(ln:Nat->Nat)(get:Nat->Nat->List PV):Prop :=
 (Unv get/\0<s)/\(∃i z,P.info? te=some i/\i.size=1/\i.bytes=bb/\i.zero=some z/\z.cells.size=1) /\
 (∃i z,P.info? e=some i/\i.size=s/\i.bytes=b/\i.zero=some z/\z.cells.size=s) /\
 w.ownsRow B te 1 (g.sv L) n ((List.range n).map (g.iv L)) /\
 (∀i,i<n->(g.iv L i).oneCell'=true/\(ln i=0->g.iv L i=.slice none 0 0)/\∃xs:List Value,w.ownsRow B e s (g.iv L i) (ln i) xs/\∀j,j<ln i->RL (Rep g.h) (get i j) ((xs.drop (j*s)).take s)) /\
 ∀i k,i<n->(g.iv L i).ownBlock=some k->(g.sv L).ownBlock≠some k/\∀j,j<n->(g.iv L j).ownBlock=some k->i=j
def vtR(P:Program)(g:Gh)(w:World)(B L te bb e s b n:Nat)(ln:Nat->Nat)(get:Nat->Nat->List PV)(o:Nat):Prop :=
 (Unv get/\0<s)/\(∃i z,P.info? te=some i/\i.size=1/\i.bytes=bb/\i.zero=some z/\z.cells.size=1) /\
 (∃i z,P.info? e=some i/\i.size=s/\i.bytes=b/\i.zero=some z/\z.cells.size=s) /\
 w.ownsRow B te 1 (g.sv L) n ((List.range n).map (g.iv L))/\(g.iv L o).oneCell'=true/\(∀k,g.iv L o ≠ .map (some k)) /\
 (∀i,i<n->i≠o->(g.iv L i).oneCell'=true/\(ln i=0->g.iv L i=.slice none 0 0)/\∃xs:List Value,w.ownsRow B e s (g.iv L i) (ln i) xs/\∀j,j<ln i->RL (Rep g.h) (get i j) ((xs.drop (j*s)).take s)) /\
 ∀i k,i<n->i≠o->(g.iv L i).ownBlock=some k->(g.sv L).ownBlock≠some k/\∀j,j<n->j≠o->(g.iv L j).ownBlock=some k->i=j
def zm3(v:Value):Prop:=∀a n c,v=.slice (some a) n c->a.off=0
def moR(P:Program)(kt vt:Nat)(q:MQ)(n:Nat)(F:List Int->Option (List Int))(es:Array MapEntry)(clock:Nat):Prop :=
 Jz P kt vt=some q/\moE q n F es clock
def NU(P:Program)(g:Gh)(w:World)(B L:Nat):AO→Prop|.box ty cs=>∃C:Array Value,w.heap[g.bk L]? = some (.cells C ty (0,0))/\RL (ja g) cs C.toList|.fbox cs=>∃(C:Array Value)(ty:TypeId)(fr:Nat×Nat),g.h (g.bk L)=some (.fz (.cells C ty fr))/\RL (Rep g.h) cs C.toList|.vec e s b n get=>Cj P g w B L e s b n get|.fvec s n get=>Rep g.h (.sl n s get) (g.sv L)/\zm3 (g.sv L)|.vv te bb e s b n ln get=>vvR P g w B L te bb e s b n ln get|.vt te bb e s b n ln get o=>vtR P g w B L te bb e s b n ln get o|.mo kt vt q n F=>∃(es:Array MapEntry)(clock:Nat),w.heap[oI (g.sv L)]? = some (.map es clock)/\moR P kt vt q n F es clock|.gone=>True
def gQ(g:Gh)(L:Nat)(o:AO)(b:Nat):Prop :=
 match o with|.box _ _=>g.bk L=b|.mo _ _ _ _ _=>oI (g.sv L)=b|.vec _ _ _ _ _=>(g.sv L).ownBlock=some b|.vv _ _ _ _ _ n _ _=>(g.sv L).ownBlock=some b\/∃i,i<n/\(g.iv L i).ownBlock=some b|.vt _ _ _ _ _ n _ _ o=>(g.sv L).ownBlock=some b\/∃i,i<n/\i≠o/\(g.iv L i).ownBlock=some b|_=>False
def Gx(P:Program)(d:Deferred):Prop:=∃(fv:Fn)(cap:Array Value)(f:FuncId)(args:Array Value),d.target=.fn fv cap/\(∀w,(invoke d.target d.args).run P w=.ok (.enter f args) w) /\
 ∀(n:Nat)(w:World),CallsDIn {fn:=λ_=>True,depth:=none,alive:=false,round:=none} n P f args .returning w λe u w'=>(∃v,e=.returned v)/\u=.returning/\w'=w
def deD:Nat ⊕ Deferred→Deferred|.inl D=>{target:=.collected D,args:=#[]}|.inr d=>d
def lefts:List (Nat ⊕ Deferred)→List Nat|[]=>[]|.inl D::r=>D::lefts r|.inr _::r=>lefts r
theorem uG{D:Nat}:∀{es:List (Nat ⊕ Deferred)},Sum.inl D∈es→D∈lefts es
  | .inl E::r,h=>by
    rcases kF.1 h with e|h
    cases e;exact kQ;exact jS _ (uG h)
  | .inr _::r,h=>by
    rcases kF.1 h with e|h
    cases e;exact uG (es:=r) h
theorem JS{D:Nat}:∀{es:List (Nat ⊕ Deferred)},D∈lefts es→Sum.inl D∈es
  | .inl E::r,h=>by
    rcases kF.1 h with rfl|h
    exact kQ;exact jS _ (JS h)
  | .inr _::r,h=>jS _ (JS (es:=r) h)
def Marks(P:Program)(B:Nat)(h:Fz)(ds:List Deferred):Prop :=
 ∃es:List (Nat ⊕ Deferred),(lefts es).Nodup/\ds=es.map deD/\(∀D,Sum.inl D∈es->B<=D/\h D=some (.fz (.deferred (some []))))/\∀d,Sum.inr d∈es->Gx P d
theorem Marks.mono{P:Program}{B:Nat}{h h':Fz}{ds:List Deferred}(m:Marks P B h ds)(hl:jP h h'):Marks P B h' ds:=by
 obtain⟨es,h1,h2,h3,h4⟩:=m;exact⟨es,h1,h2,λD hD=>⟨(h3 D hD).1,hl _ _ (h3 D hD).2⟩,h4⟩
theorem Marks.nil{P:Program}(B:Nat)(h:Fz):Marks P B h []:=⟨[],qjx,rfl,λ_ hD=>by simp at hD,λ_ hD=>by simp at hD⟩
structure bW (P : Program) (nt B : Nat) (w0 : World) (h0 : Fz) (g : Gh) (σ : St) (a : Act) (w : World) : Prop where
  dfr:Marks P B g.h a.defers
  size:nt<=a.tmps.size
  env:∀t d,lk σ.env t=some d->qM g d (a.tmps.getD t undef)
  obj:∀L o,lk σ.aB L=some o->NU P g w B L o
  own:∀L o b,lk σ.aB L=some o->gQ g L o b->B<=b/\g.h b=none
  sep:∀L o b L' o',lk σ.aB L=some o->lk σ.aB L'=some o'->gQ g L o b->gQ g L' o' b->L=L'
  hw:Hw g.h w
  le0:jP h0 g.h
  hn:∀b o,g.h b=some o->h0 b=some o\/B<=b
  below:xx h0 B w0 w
  bs:B<=w.heap.size
  clE:∀t d,lk σ.env t=some d->∀L∈cu d,∃o,lk σ.aB L=some o
  clO:∀L o,lk σ.aB L=some o->∀M∈dU o,∃o',lk σ.aB M=some o'
def nN(h:Fz):PA→Value→Prop|.one v,x=>Rep h v x|.agg cs,x=>∃vs:List Value,x=.agg vs.toArray/\RL (Rep h) cs vs
def qg(h:Fz):List PA→Value→Prop|[r],v=>nN h r v|rs,v=>∃vs:List Value,v=.tuple vs.toArray/\RL (nN h) rs vs
def dm (P : Program) (f : FuncId) : Prop := ∃ fn, P.funcs[f]? = some fn ∧ fn.body.isSome = true ∧ (fn.name == "runtime.NumGoroutine") = false
def Ok(P:Program)(f:FuncId)(C:List PA->ae (List PA)):Prop :=
 ∀(args rs:List PA),(C args).o=some rs->∀(w:World)(h:Fz)(vs:List Value),RL (nN h) args vs->Hw h w ->
  dm P f/\Calls P f vs.toArray w λ e w'=>∃ (h':Fz) (v:Value),e=.returned v/\qg h' rs v/\xx h w.heap.size w w' /\
   jP h h'/\Hw h' w'/\∀b o,h' b=some o->h b=some o\/w.heap.size<=b
def zS(h:Fz)(w:World)(base e s:Nat)(v:Value)(n:Nat)(get:Nat->List PV):Prop :=
 ∃xs:List Value,w.ownsRow base e s v n xs/\∀i,i<n->RL (Rep h) (get i) ((xs.drop (i*s)).take s)
structure YA (h : Fz) (K : List Nat) (w w' : World) : Prop where
  os:w'.os=w.os
  tape:w'.tape=w.tape
  output:w'.output=w.output
  size:w.heap.size<=w'.heap.size
  drawn:dle w.drawn w'.drawn
  block:∀k,k<w.heap.size->k∉K->w'.heap[k]? = w.heap[k]?
def UG(v:Value)(xs:List Value):List PV→Value|[]=>v|_=>.tuple (v::xs).toArray
def fU(P:Program)(f:FuncId):ES→Prop
  | .none=>True
  | .sort e s b=>∀(w:World)(h:Fz)(base:Nat)(v:Value)(n:Nat)(get:Nat->List PV)(gf:FuncId)(caps:List PV)(cv:List Value)(ag:Bool)(C:List PA->ae (List PA)),@Ok ⟨1⟩ P gf C->RL (Rep h) caps cv->jq P e=some ag ->
      (∃i,P.info? e=some i/\i.size=s)->0<s->zS h w base e s v n get->v.oneCell'=true->Hw h w->(∀k,v.ownBlock=some k->h k=none)->base<=w.heap.size ->
      zwt n (λi j=>(JC C caps ag get i j).isSome) (nJ C caps ag get) ->
      dm P f/\Calls P f #[v,.func (.func gf) #[] cv.toArray] w λr w'=>r=.returned (.tuple #[])/\zS h w' base e s v n (JD n (nJ C caps ag get) get)/\GrB w w' v.ownBlock
  | .clone e s b=>∀(w:World)(h:Fz)(v:Value)(n:Nat)(get:Nat->List PV),Rep h (.sl n s get) v->Hw h w->n*b<=140737488355328->n<=9223372036854775807 ->
      dm P f/\Calls P f #[v] w λ r w'=>∃ (h':Fz) (v':Value),r=.returned v'/\v'.oneCell'=true/\zS h' w' w.heap.size e s v' n get/\(∀ k,v'.ownBlock=some k->h' k=none) /\
        xx h w.heap.size w w'/\jP h h'/\Hw h' w'/\∀b o,h' b=some o->h b=some o\/w.heap.size<=b
  | .mkv e s b F=>∀(w:World)(h:Fz)(az:List PA)(vs:List Value)(n:Nat)(get:Nat->List PV)(rs:List PV),(F az).o=some (n,get,rs)->RL (nN h) az vs->Hw h w ->
      dm P f/\Calls P f vs.toArray w λ r w'=>∃ (h':Fz) (v':Value) (xs:List Value),r=.returned (UG v' xs rs)/\RL (Rep h') rs xs/\v'.oneCell'=true/\tH get /\
        zS h' w' w.heap.size e s v' n get/\(∀k,v'.ownBlock=some k->h' k=none)/\xx h w.heap.size w w'/\jP h h'/\Hw h' w'/\∀b o,h' b=some o->h b=some o\/w.heap.size<=b
  | .grow e s b F=>∀(w:World)(h:Fz)(base:Nat)(az:List PA)(vs:List Value)(v:Value)(n:Nat)(get:Nat->List PV)(m:Nat)(get':Nat->List PV),(F az n get).o=some (m,get')->RL (nN h) az vs ->
      v.oneCell'=true->(tH get/\0<s)->(∃i z,P.info? e=some i/\i.size=s/\i.bytes=b/\i.zero=some z/\z.cells.size=s)->zS h w base e s v n get->(∀k,v.ownBlock=some k->base<=k/\h k=none)->Hw h w->base<=w.heap.size ->
      dm P f/\Calls P f (vs ++ [v]).toArray w λ r w'=>∃ (h':Fz) (v':Value),r=.returned v'/\v'.oneCell'=true/\tH get'/\zS h' w' base e s v' m get' /\
        (∀k,v'.ownBlock=some k->(k∈v.ownBlock.toList\/w.heap.size<=k)/\h' k=none)/\jP h h'/\Hw h' w'/\(∀b o,h' b=some o->h b=some o\/w.heap.size<=b\/b∈v.ownBlock.toList)/\YA h v.ownBlock.toList w w'
def JSt(J:List (List PA)->Fz->World->Prop):Prop :=
 ∀ys h W h' W',J ys h W->jP h h'->Hw h' W'->(∀b o,h' b=some o->h b=some o\/W.heap.size<=b)->xx h W.heap.size W W'->J ys h' W'
def zT(P:Program)(f:FuncId)(C:List PA->ae (List (List PA))):Prop :=
 ∀(caps:List PA)(ys:List (List PA)),(C caps).o=some ys->∀(l:Nat)(J Jx:List (List PA)->Fz->World->Prop)(Rp:Ending->World->Prop)(w:World)(h:Fz)(vs:List Value),JSt J->JSt Jx ->
  (∀y rest h W us,J (y::rest) h W->RL (nN h) y us->Hw h W->∀n,∃fn tmps assign body,(Instr.yield l us.toArray).run P W=.ok (.round l fn tmps assign body) W /\
   RoundIn Fence.wide n P l fn tmps assign body W λe W'=>(∃h',jP h h'/\Hw h' W'/\((e=.returned (.bool true)/\J rest h' W')\/(e=.returned (.bool false)/\Jx rest h' W')))\/((∃ch,e=.panicked ch)/\Rp e W')) ->
  J ys h w->RL (nN h) caps vs->Hw h w ->
  dm P f/\Calls P f (.func (.yield l) #[] #[]::vs).toArray w λe W'=>(∃v h',e=.returned v/\jP h h'/\Hw h' W'/\(J [] h' W'\/∃rest,Jx rest h' W'))\/((∃ch,e=.panicked ch)/\Rp e W')
class dD where
  f:FuncId
  np:Nat
  bs:List Nat
def xJ(b:Nat):Value:=.pointer (some ⟨b,0,none⟩)
def zPp [dD]:Value:=.func (.func (dD.f)) #[] ((dD.bs).map xJ).toArray
def xcR [dD](P:Program)(h:Fz)(w:World)(B:Nat):XC→Value→Prop|.p v,x=>Rep h v x|.vec e s b n get,x=>x.oneCell'=true/\(tH get/\0<s)/\(∃i z,P.info? e=some i/\i.size=s/\i.bytes=b/\i.zero=some z/\z.cells.size=s)/\zS h w B e s x n get|.mo kt vt q n F,x=>∃(b:Nat)(es:Array MapEntry)(clock:Nat),x=.map (some b)/\w.heap[b]? = some (.map es clock)/\moR P kt vt q n F es clock|.slf f np n,x=>f=dD.f/\np=dD.np/\n=(dD.bs).length/\x=zPp
def xcK:XC→Value→List Nat|.p _,_=>[]|.vec _ _ _ _ _,x=>x.ownBlock.toList|.mo _ _ _ _ _,x=>[oI x]|.slf _ _ _,_=>[]
def uH:List XC→List Value→List Nat|c::cs,v::vs=>xcK c v++uH cs vs|_,_=>[]
def zi [dD](P:Program)(h:Fz)(w:World)(B:Nat):XA→Value→Prop|.d a,v=>nN h a v|.box ty cs,v=>∃k C,v=.pointer (some ⟨k,0,none⟩)/\w.heap[k]? = some (.cells C ty (0,0))/\RL (xcR P h w B) cs C.toList
def UH(w:World):XA→Value→List Nat
  | .box _ cs,.pointer (some a)=>a.block::match w.heap[a.block]? with|some (.cells C _ _)=>uH cs C.toList|_=>[]
  | _,_=>[]
def nz(w:World):List XA→List Value→List Nat|x::xs,v::vs=>UH w x v++nz w xs vs|_,_=>[]
def QJ(h:Fz)(rs:List PA)(e:Ending):Prop:=match EW rs with|none=>∃v,e=.returned v/\qg h rs v|some ch=>e=.panicked ch
def qN(P:Program)(f:FuncId)(C:MK):Prop :=
 ∀ [dD] (xs ys:List XA) (rs:List PA),(C xs).o=some (rs,ys)->∀(w:World)(h:Fz)(base:Nat)(vs:List Value),RL (zi P h w base) xs vs->(∀k b,(dD.bs)[k]? = some b->vs[dD.np+k]? = some (xJ b))->(nz w xs vs).Nodup ->
  (∀b∈nz w xs vs,base<=b/\h b=none)->Hw h w->base<=w.heap.size ->
  dm P f/\Calls P f vs.toArray w λ e w'=>∃ (h':Fz),QJ h' rs e/\RL (zi P h' w' base) ys vs/\(nz w' ys vs).Nodup /\
   (∀b∈nz w' ys vs,(b∈nz w xs vs\/w.heap.size<=b)/\h' b=none)/\jP h h'/\Hw h' w'/\(∀b o,h' b=some o->h b=some o\/w.heap.size<=b\/b∈nz w xs vs)/\YA h (nz w xs vs) w w'
structure jk (P : Program) (Γ : bI) : Prop where
  mt:∀f C,Γ.mt f=some C->qN P f C
  fn:∀f,Ok P f (Γ.fn f)
  own:∀f,fU P f (Γ.own f)
  it:∀f,zT P f (Γ.it f)
  cmp:∀f,@Ok ⟨1⟩ P f (Γ.cfn f)
theorem aW{α:Type}{k n:Nat}{a:α}{r:List (Nat×α)}:lk ((k,a)::r) n=if k=n then some a else lk r n:=by
 simp only[lk];cases h:Nat.beq k n with|true=>rw[eX (kP h)]|false=>rw[fF (qdu h)]
theorem gU{α:Type}{n:Nat}{l r:List (Nat×α)}:lk (l++r) n=match lk l n with|some a=>some a|none=>lk r n:=by
 induction l with
 | nil=>rfl
 | cons x l ih =>
  obtain⟨k,a⟩:=x;rw[qdJ,aW,aW];split;rfl;exact ih
end Go.Pm
namespace Go.Pm
variable [aH]
open Go.RowKit (Below)
section
variable{P:Program}{w:World}
theorem addr_add(b o n:Nat):(⟨b,o,none⟩:Addr).add n=⟨b,o+n,none⟩:=by
 unfold Addr.add;split<;>simp_all
theorem run_underlying{t:TypeId}{d:TypeDesc}(h:P.underlying t=some d):(underlying t).run P w=.ok d w:=by
 simp[underlying,h]
theorem run_sizeOf{t:TypeId}{n:Nat}(h:pU P t=some n):(sizeOf t).run P w=.ok n w:=by
 unfold pU at h;cases hi:P.info? t with|none=>simp[hi]at h|some i=>simp[hi]at h;simp[sizeOf,typeInfo,hi,h]
theorem nO{t:TypeId}{g:Bool}(h:jq P t=some g):(isAgg t).run P w=.ok g w:=by
 unfold jq at h;cases hi:P.underlying t with|none=>simp[hi]at h|some d=>simp[hi]at h;simp only[isAgg,Sem.run_bind,run_underlying hi,Result.andThen_ok];cases d<;>simp_all
theorem kT{t:TypeId}{i:TypeInfo}{z:Value}(h:P.info? t=some i)(hz:i.zero=some z):(zeroValue t).run P w=.ok z w:=by
 simp[zeroValue,typeInfo,h,hz]
theorem cell_of{b o:Nat}{C:Array Value}{ty:TypeId}{fr:Nat×Nat}(h:w.heap[b]? = some (.cells C ty fr)):w.cell? ⟨b,o,none⟩=C[o]?:=by
 simp[World.cell?,h]
theorem Iu{t:TypeId}{n b o:Nat}{C:Array Value}{ty:TypeId}{fr:Nat×Nat}(hg:jq P t=some true)(hs:pU P t=some n)
    (h:w.heap[b]? = some (.cells C ty fr)) (vs:List Value) (hl:vs.length=n) (hv:∀(j:Nat)(v:Value),vs[j]? = some v->C[o+j]? = some v) :
    (loadVar t ⟨b,o,none⟩).run P w=.ok (.agg vs.toArray) w:=by
  have hc:=run_loadCells_list (P:=P) (w:=w) ⟨b,o,none⟩ vs (λj v hj=>by rw[addr_add,cell_of h];exact hv j v hj);simp only[loadVar,Sem.run_bind,nO hg,Result.andThen_ok,OV,run_sizeOf hs,<- hl,hc,Sem.run_pure]
theorem xy{t:TypeId}{b o:Nat}{C:Array Value}{ty:TypeId}{fr:Nat×Nat}(hg:jq P t=some false)
    (h:w.heap[b]? = some (.cells C ty fr)) (v:Value) (hv:C[o]? = some v) :
    (loadVar t ⟨b,o,none⟩).run P w=.ok v w:=by
  simp only[loadVar,Sem.run_bind,nO hg,Result.andThen_ok,qds,qd4,run_load,cell_of h,hv]
theorem UI{t:TypeId}{b o f off:Nat}(h:JB P t f=some off) :
  (Instr.fieldAt t (.pointer (some ⟨b,o,none⟩)) f).run P w=.ok (.pointer (some ⟨b,o+off,none⟩)) w:=by
 unfold JB at h;split at h;rename_i fs hu;split at h;rename_i fd hf;split at h;rename_i k hs;simp at h;subst h;simp only[Instr.fieldAt,Sem.run_bind,run_underlying hu,Result.andThen_ok,hf,Instr.sureAddr,Sem.run_pure,fieldPlace,run_sizeOf hs];simp[addr_add];cases h;cases h;cases h
theorem run_indexAt_slice{t e:TypeId}{n b o len cap:Nat}{k:IntKind}{i:Int}(hu:P.underlying t=some (.slice e))(hs:pU P e=some n)(h0:0≤i)(h1:i<(len:Int)) :
  (Instr.indexAt t (.slice (some ⟨b,o,none⟩) len cap) (.int k i)).run P w=.ok (.pointer (some ⟨b,o+i.toNat*n,none⟩)) w:=by
 simp only[Instr.indexAt,asIntOf,Sem.run_bind,Sem.run_pure,Result.andThen_ok,run_underlying hu,h0,h1,and_self,OV,run_sizeOf hs,addr_add]
theorem yh{b:Nat}{ty:TypeId}:∀(vs:List Value)(o:Nat)(C:Array Value)(w:World),w.heap[b]? = some (.cells C ty (0,0))->o+vs.length<=C.size->(∀v∈vs,v.oneCell'=true) ->
  ∀(base i:Nat),o=base+i->∃w',(storeCells ⟨b,base,none⟩ vs i).run P w=.ok () w'/\w'.heap[b]? = some (.cells (spl C.toList o vs).toArray ty (0,0))/\w'.heap.size=w.heap.size /\
   (∀k,k≠b->w'.heap[k]? = w.heap[k]?)/\w'.os=w.os/\w'.tape=w.tape/\w'.output=w.output/\w'.drawn=w.drawn
 | [],o,C,w,h,_,_,base,i,_=>⟨w,by simp[storeCells],by simpa [spl]using h,rfl,λ_ _=>rfl,rfl,rfl,rfl,rfl⟩
 | v::r,o,C,w,h,hl,h1,base,i,ho=>by
  subst ho;have iw:base+i<C.size:=by simp at hl;omega
  have nG:w.cell? ⟨b,base+i,none⟩=some C[base+i]:=by rw[cell_of h];simp[iw]
  have hfr:w.frozen? ⟨b,base+i,none⟩=false:=frozen_of_row w b (base+i) C ty h;let w1:=w.setCell ⟨b,base+i,none⟩ v;have h2:w1.heap[b]? = some (.cells (C.set! (base+i) v) ty (0,0)):=by
   simp[w1,World.setCell,qjH,h]
  have jH:w1.heap.size=w.heap.size:=by simp[w1,World.setCell]
  have qy:∀k,k≠b->w1.heap[k]? = w.heap[k]?:=λk hk=>heap_setCell_other w _ k v hk;obtain⟨w',hr,hh,rM,kH,h5,h6,h7,h8⟩:=yh r (base+i+1) (C.set! (base+i) v) w1 h2 (by simp at hl ⊢;omega) (λu hu=>h1 u (jS _ hu)) base (i+1) omY;refine⟨w',?_,?_,rM.trans jH,λk hk=>(kH k hk).trans (qy k hk),h5,h6,h7,h8⟩;rw [storeCells];simp only[Sem.run_bind,addr_add,run_store P w _ v _ (h1 v kQ),nG,hfr,qds,qd4,Result.andThen_ok];exact hr;rw [hh];simp[spl]
end
end Go.Pm
namespace Go.Pm
variable [aH]
open Go.RowKit (Below)
theorem Cm{α:Type}:∀(l' l:List α)(off j:Nat),off+l'.length≤l.length→(spl l off l')[j]? = if off≤j∧j<off+l'.length then l'[j-off]? else l[j]?
  | [],l,off,j,_=>by simp only[spl,Uu];rw[fF omY]
  | x::r,l,off,j,h=>by
    have h':off+1+r.length<=(l.set off x).length:=by simp at h ⊢;omega
    rw[spl,Cm r (l.set off x) (off+1) j h'];simp only[EN]at h ⊢;by_cases hj:j=off;subst hj;rw[fF omY,eX omY];have:j<l.length:=by omega
    simp[this];by_cases hr:off+1≤j∧j<off+1+r.length;rw [eX hr,eX omY];have e:j-off=(j-(off+1))+1:=by omega
    rw[e,Yn];rw[fF hr,fF omY,qjp omY]
theorem za2{g:Nat->List PV}(hg:tH g){i k:Nat}{l:List PV}(hk:k+l.length<=(g 0).length)(hs:smL (((g 0).drop k).take l.length) l=true)(hl:RS l l):tH (BX i k g l):=by
 have hp:RS (((g 0).drop k).take l.length) l:=JG hs (((hg 0 0).drop k).take _) hl;have key:∀j j',RS (spl (g j) k l) (g j'):=λj j'=>by
  have e0:=(hg 0 j).length;refine RL.of_get (by rw[lI];exact(hg j j').length) λp a b ha hb=>?_;rw[Cm _ _ _ _ omY]at ha;split at ha;rename_i hr;obtain⟨c,hc,r⟩:=RL.get' hp (p-k) a ha;rw[IL,eX omY,qdg,show k+(p-k)=p by omega]at hc;obtain⟨d,hd,r2⟩:=RL.get (hg 0 j') p c hc;rw[hb]at hd;cases hd;exact r.symm.trans r2;obtain⟨d,hd,r2⟩:=RL.get (hg j j') p a ha;rw[hb]at hd;cases hd;exact r2
 intro j j';unfold BX;split<;>split;exact(key j j').trans (key j' j').symm;exact key _ _;exact(key _ _).symm;exact hg _ _
theorem E5(off:Nat):∀(l:List Value)(k:Nat)(C:Array Value),
  (l.zipIdx k).foldl (λ(cs:Array Value)(x:Value×Nat)=>cs.setIfInBounds (off+x.2) x.1) C=(spl C.toList (off+k) l).toArray
 | [],k,C=>by simp[spl]
 | x::r,k,C=>by
  rw[List.zipIdx_cons,Yf,E5 off r (k+1) _,spl];simp[qjq]
section
variable{P:Program}{w:World}
theorem uI{g:Gh}{d:D1}{v:Value}(h:Ai g d v)(ho:d.cells.all BV=true):RL (ja g) d.cells v.cells.toList:=by
 cases d with
 | c x =>
  have h1:=za1 h (by simpa [D1.cells]using ho);have:v.cells = #[v]:=by cases v<;>simp_all [Value.oneCell',Value.cells]
  rw[this];exact⟨h,trivial⟩
 | agg cs =>
  obtain⟨vs,rfl,hr⟩:=h;simpa [D1.cells,Value.cells]using hr
theorem UJ{fs:Array Field}(h:∀f∈fs,(pU P f.type).isSome=true) :
  (fs.mapM λf=>do pure (f.offset,<- sizeOf f.type):Sem (Array (Nat×Nat))).run P w=.ok (fs.map λf=>(f.offset,(pU P f.type).getD 0)) w:=by
 have key:∀l:List Field,(∀f∈l,(pU P f.type).isSome=true) ->
   (l.mapM λf=>do pure (f.offset,<- sizeOf f.type):Sem (List (Nat×Nat))).run P w=.ok (l.map λf=>(f.offset,(pU P f.type).getD 0)) w:=by
  intro l
  induction l with
  | nil=>intro _;rfl
  | cons f l ih =>
   intro hl;obtain⟨n,hn⟩:=jqm.1 (hl f kQ);rw[qjy];simp only[Sem.run_bind,run_sizeOf hn,Result.andThen_ok,Sem.run_pure,ih (λg hg=>hl g (jS _ hg)),o5,hn,qdE]
 rw[qjz,Sem.run_map,key fs.toList (λf hf=>h f (by simpa using hf))];cases fs;simp
theorem yj{g:Gh}{ρ:Operand→Value}{ev:Operand→DV}(hev:∀o,qM g (ev o) (ρ o)){t:TypeId}(place:Nat→Option (Nat×Nat))
    (hp:∀(i off n:Nat),(match P.underlying t with
      | some (.struct fs)=>match fs[i]? with
        | some fd=>match pU P fd.type with|some m=>off=fd.offset/\n=m|none=>False
        | none=>False
      | some (.array _ e)=>match pU P e with|some m=>off=i*m/\n=m|none=>False
      | _=>False)->place i=some (off,n)) :
    ∀(parts:List (Nat×Operand))(z l:List Cl)(C:Array Value),iH P t ev z parts=some l->RL (ja g) z C.toList ->
      ∃D:Array Value,Instr.fill place C (parts.map λx=>(x.1,ρ x.2))=some D/\RL (ja g) l D.toList
  | [],z,l,C,h,hz=>by
    simp[iH]at h;subst h;exact⟨C,rfl,hz⟩
  | (i,o)::r,z,l,C,h,hz=>by
    have hd:=hev o;simp only[iH]at h;cases he:ev o with
    | tup ds=>simp[he]at h
    | one d =>
      simp only[he]at h;rw[he]at hd
      have step:∀(off n:Nat),place i=some (off,n)->n=d.cells.length->off+n<=z.length->d.cells.all BV=true->iH P t ev (spl z off d.cells) r=some l ->
          ∃D:Array Value,Instr.fill place C (((i,o)::r).map λx=>(x.1,ρ x.2))=some D/\RL (ja g) l D.toList:=by
        intro off n Ig hn hle fP hb;have hc:=uI hd fP;have hlen:=hc.length;have hzl:=hz.length;have hr2:RL (ja g) (spl z off d.cells) (spl C.toList off (ρ o).cells.toList):=hz.spl hc off;obtain⟨D,hD,hR⟩:=yj hev place hp r _ l (spl C.toList off (ρ o).cells.toList).toArray hb (by simpa using hr2);refine⟨D,?_,hR⟩;simp only[o5,Instr.fill,Ig];have h1:¬((ρ o).cells.size≠n):=by simp only[Decidable.not_not,ne_eq];rw[hn,hlen];simp
        have h2:¬(off+(ρ o).cells.size>C.size):=by
          have:(ρ o).cells.size=d.cells.length:=by rw[hlen];simp
          have:C.size=z.length:=by rw[hzl];simp
          omega
        have h3:((decide ((ρ o).cells.size≠n)||decide (off+(ρ o).cells.size>C.size))=true)=False:=by simp[h1,h2]
        rw[fF (by rw[h3];exact id)];rw[<- hD];refine kz (λz=>Instr.fill place z _) ?_;have:=E5 off (ρ o).cells.toList 0 C;rw[qdW]at this;rw[<- this];cases(ρ o).cells;simp
      cases hu:P.underlying t with
      | none=>simp[hu]at h
      | some dd =>
        cases dd with
        | struct fs =>
          simp only[hu]at h;cases hf:fs[i]? with
          | none=>simp[hf]at h
          | some fd =>
            simp only[hf]at h;cases hs:pU P fd.type with
            | none=>simp[hs]at h
            | some n =>
              simp only[hs]at h;split at h;rename_i dh;simp only[gz,Ug]at dh;exact step fd.offset n (hp i _ _ (by simp[hu,hf,hs])) (kP dh.1.1) dh.1.2 dh.2 h;cases h
        | array m e =>
          simp only[hu]at h;cases hs:pU P e with
          | none=>simp[hs]at h
          | some n =>
            simp only[hs]at h;split at h;rename_i dh;simp only[gz,Ug]at dh;exact step (i*n) n (hp i _ _ (by simp[hu,hs])) (kP dh.1.1) dh.1.2 dh.2 h;cases h
        | _=>simp[hu]at h
theorem JU{h:Fz}{v:Value}{p:PV}(hv:vP v=some p):Rep h p v:=by
 unfold vP at hv;split at hv<;>first|(cases hv;done)|(simp at hv;subst hv;constructor)
theorem kG{g:Gh}:∀(l:List Value)(cs:List Cl),jo l=some cs→RL (ja g) cs l
  | [],cs,h=>by simp[jo]at h;subst h;trivial
  | v::r,cs,h=>by
    simp only[jo]at h;split at h;rename_i x l hx hl;simp at h;subst h;exact⟨JU hx,kG r l hl⟩;cases h
theorem lJ{t:TypeId}{z:List Cl}(h:gK P t=some z):∃i v,P.info? t=some i/\i.zero=some v/\jo v.cells.toList=some z/\z.length=i.size:=by
 unfold gK at h;split at h;rename_i i hi;split at h;rename_i v hz;split at h;rename_i l hl;split at h;rename_i hs;simp at h;subst h;exact⟨i,v,hi,hz,hl,hs⟩;cases h;cases h;cases h;cases h
theorem zdx{t:TypeId}{z:List Cl}(h:gK P t=some z):∃i v,P.info? t=some i/\i.zero=some v/\v.cells.size=i.size:=by
 obtain⟨i,v,hi,hz,hl,hs⟩:=lJ h;have:=(kG (g:=⟨λ_=>none,λ_=>0,λ_=>undef,λ_ _=>undef⟩) _ _ hl).length;exact⟨i,v,hi,hz,by rw[<- hs,this];simp⟩
theorem run_build{g:Gh}{ρ:Operand→Value}{ev:Operand→DV}(hev:∀o,qM g (ev o) (ρ o)){t:TypeId}{parts:Array (Nat×Operand)}{z l:List Cl}
    (hf:xY P t=true) (hz:gK P t=some z) (hb:iH P t ev z parts.toList=some l) :
    ∃v,(Instr.build t (parts.map λx=>(x.1,ρ x.2))).run P w=.ok v w/\Ai g (.agg l) v:=by
  obtain⟨i,v,hi,Gq,hl,_⟩:=lJ hz;have hzr:=kG (g:=g) _ _ hl;unfold xY at hf;cases hu:P.underlying t with
  | none=>simp[hu]at hf
  | some d =>
    cases d with
    | struct fs =>
      simp only[hu]at hf;have Gs:∀f∈fs,(pU P f.type).isSome=true:=λf hf'=>Af.1 hf f (by simpa using hf');obtain⟨D,hD,hR⟩:=yj (P:=P) hev (t:=t) ((fs.map λf=>(f.offset,(pU P f.type).getD 0))[·]?) (by
        intro i off n hm;simp only[hu]at hm;cases hfi:fs[i]? with
        | none=>simp[hfi]at hm
        | some fd =>
          cases hs:pU P fd.type with|none=>simp[hfi,hs]at hm|some m=>simp[hfi,hs]at hm;simp[hfi,hs,hm.1,hm.2]) parts.toList z l v.cells hb hzr
      refine⟨.agg D,?_,⟨D.toList,by simp,hR⟩⟩;simp only[Instr.build,Sem.run_bind,kT hi Gq,Result.andThen_ok,run_underlying hu,UJ Gs];simp only[qjl];rw[hD];rfl
    | array m e =>
      simp only[hu]at hf;obtain⟨n,hn⟩:=jqm.1 hf;obtain⟨D,hD,hR⟩:=yj (P:=P) hev (t:=t) (λi=>some (i*n,n)) (by
        intro i off k hm;simp only[hu,hn]at hm;simp[hm.1,hm.2]) parts.toList z l v.cells hb hzr
      refine⟨.agg D,?_,⟨D.toList,by simp,hR⟩⟩;simp only[Instr.build,Sem.run_bind,kT hi Gq,Result.andThen_ok,run_underlying hu,run_sizeOf hn];simp only[qjl];rw[hD];rfl
    | _=>simp[hu]at hf
end
end Go.Pm
namespace Go.Pm
variable [aH]
open Go.RowKit (Below)
def iV(g g':Gh)(L:Nat):Prop:=g'.bk L=g.bk L/\g'.sv L=g.sv L/\g'.iv L=g.iv L
theorem iV.refl(g:Gh)(L:Nat):iV g g L:=⟨rfl,rfl,rfl⟩
def O7(g g':Gh)(l:List Nat):Prop:=∀L∈l,iV g g' L
theorem UK{g g':Gh}{c:Cl}{x:Value}(hl:O7 g g' (bu c))(hle:jP g.h g'.h)(h:ja g c x):ja g' c x:=by
 cases c with
 | p v=>exact Rep.mono hle h
 | ptr L off=>have:=(hl L (by simp[bu])).1;simp only[ja]at h ⊢;rw[this];exact h
 | vptr L s i k=>have:=(hl L (by simp[bu])).2.1;simp only[ja]at h ⊢;rw[this];exact h
 | vec L=>have:=(hl L (by simp[bu])).2.1;simp only[ja]at h ⊢;rw[this];exact h
 | mo L=>have:=(hl L (by simp[bu])).2.1;simp only[ja]at h ⊢;rw[this];exact h
 | clo f caps=>obtain⟨cv,e,hr⟩:=h;exact⟨cv,e,qB (λ_ _=>Rep.mono hle) (λL hL=>(hl L hL).1) hr⟩
 | undef=>exact h
 | junk=>trivial
 | dead L=>trivial
theorem sF{g g':Gh}:∀{cs:List Cl}{vs:List Value},O7 g g' (cs.flatMap bu)→jP g.h g'.h→RL (ja g) cs vs→RL (ja g') cs vs|[],[],_,_,_=>trivial|[],_::_,_,_,h=>h.elim|_::_,[],_,_,h=>h.elim|c::cs,v::vs,hl,hle,h=>⟨UK (λL hL=>hl L (by simp[hL])) hle h.1,sF (λL hL=>hl L (by simp only[oD,dW];exact .inr hL)) hle h.2⟩
theorem UL{g g':Gh}{d:D1}{x:Value}(hl:O7 g g' (dC d))(hle:jP g.h g'.h)(h:Ai g d x):Ai g' d x:=by
 cases d with
 | c y=>exact UK hl hle h
 | agg cs=>obtain⟨vs,rfl,hr⟩:=h;exact⟨vs,rfl,sF hl hle hr⟩
theorem Gy{g g':Gh}:∀{cs:List D1}{vs:List Value},O7 g g' (cs.flatMap dC)→jP g.h g'.h→RL (Ai g) cs vs→RL (Ai g') cs vs|[],[],_,_,_=>trivial|[],_::_,_,_,h=>h.elim|_::_,[],_,_,h=>h.elim|c::cs,v::vs,hl,hle,h=>⟨UL (λL hL=>hl L (by simp[hL])) hle h.1,Gy (λL hL=>hl L (by simp only[oD,dW];exact .inr hL)) hle h.2⟩
theorem UM{g g':Gh}{d:DV}{x:Value}(hl:O7 g g' (cu d))(hle:jP g.h g'.h)(h:qM g d x):qM g' d x:=by
 cases d with
 | one y=>exact UL hl hle h
 | tup ds=>obtain⟨vs,rfl,hr⟩:=h;exact⟨vs,rfl,Gy hl hle hr⟩
theorem je{w w':World}{B e s n:Nat}{v:Value}{xs:List Value}(h:w.ownsRow B e s v n xs)(hw:∀b,v.ownBlock=some b→w'.heap[b]? = w.heap[b]?) :
  w'.ownsRow B e s v n xs:=by
 refine⟨h.1,?_⟩;rcases h.2 with hn|⟨g,cap,cur,rfl,hb,hg,rest⟩
 exact .inl hn;exact .inr ⟨g,cap,cur,rfl,hb,by rw[hw g rfl];exact hg,rest⟩
theorem O8{P:Program}{g g':Gh}{w w':World}{B L e s b n:Nat}{get:Nat→List PV}(h:Cj P g w B L e s b n get)(hs:g'.sv L=g.sv L)(hle:jP g.h g'.h)
    (hw:∀b,(g.sv L).ownBlock=some b->w'.heap[b]? = w.heap[b]?):Cj P g' w' B L e s b n get:=by
  obtain⟨h1,h2,xs,hx,hr⟩:=h;refine⟨h1,h2,xs,?_,λi hi=>(hr i hi).mono λ_ _=>Rep.mono hle⟩;rw[hs];exact je hx hw
theorem UN{P:Program}{g g':Gh}{w w':World}{B L te bb e s b n:Nat}{ln:Nat→Nat}{get:Nat→Nat→List PV}(h:vvR P g w B L te bb e s b n ln get)(hl:iV g g' L)(hle:jP g.h g'.h)
    (hw:∀k,gQ g L (.vv te bb e s b n ln get) k->w'.heap[k]? = w.heap[k]?):vvR P g' w' B L te bb e s b n ln get:=by
  obtain⟨h1,h2,h3,h4,h5,h6⟩:=h;refine⟨h1,h2,h3,?_,λi hi=>?_,?_⟩;rw[hl.2.1,hl.2.2];exact je h4 λk hk=>hw k (.inl hk);obtain⟨h7,h70,xs,hx,hr⟩:=h5 i hi;rw[hl.2.2];exact⟨h7,h70,xs,je hx λk hk=>hw k (.inr ⟨i,hi,hk⟩),λj hj=>(hr j hj).mono λ_ _=>Rep.mono hle⟩;rw[hl.2.1,hl.2.2];exact h6
theorem UO{P:Program}{g g':Gh}{w w':World}{B L te bb e s b n o:Nat}{ln:Nat→Nat}{get:Nat→Nat→List PV}(h:vtR P g w B L te bb e s b n ln get o)(hl:iV g g' L)(hle:jP g.h g'.h)
    (hw:∀k,gQ g L (.vt te bb e s b n ln get o) k->w'.heap[k]? = w.heap[k]?):vtR P g' w' B L te bb e s b n ln get o:=by
  obtain⟨h1,h2,h3,h4,h41,h42,h5,h6⟩:=h;refine⟨h1,h2,h3,?_,by rw[hl.2.2];exact h41,by rw[hl.2.2];exact h42,λi hi ho=>?_,?_⟩;rw[hl.2.1,hl.2.2];exact je h4 λk hk=>hw k (.inl hk);obtain⟨h7,h70,xs,hx,hr⟩:=h5 i hi ho;rw[hl.2.2];exact⟨h7,h70,xs,je hx λk hk=>hw k (.inr ⟨i,hi,ho,hk⟩),λj hj=>(hr j hj).mono λ_ _=>Rep.mono hle⟩;rw[hl.2.1,hl.2.2];exact h6
theorem jM{P:Program}{g g':Gh}{w w':World}{B L:Nat}{o:AO}(h:NU P g w B L o)(hl:iV g g' L)(hm:O7 g g' (dU o))(hle:jP g.h g'.h)
    (hw:∀b,gQ g L o b->w'.heap[b]? = w.heap[b]?):NU P g' w' B L o:=by
  cases o with
  | box ty cs=>obtain⟨C,hC,hr⟩:=h;refine⟨C,?_,sF hm hle hr⟩;rw[hl.1,hw _ rfl];exact hC
  | fbox cs=>obtain⟨C,ty,fr,hC,hr⟩:=h;refine⟨C,ty,fr,?_,hr.mono λ_ _=>Rep.mono hle⟩;rw[hl.1];exact hle _ _ hC
  | vec e s b n get=>exact O8 h hl.2.1 hle hw
  | fvec s n get=>simp only[NU]at h ⊢;rw[hl.2.1];exact⟨Rep.mono hle h.1,h.2⟩
  | vv te bb e s b n ln get=>exact UN h hl hle hw
  | vt te bb e s b n ln get o=>exact UO h hl hle hw
  | mo kt vt q n F=>obtain⟨es,clock,hC,hr⟩:=h;refine⟨es,clock,?_,hr⟩;rw[hl.2.1,hw _ rfl];exact hC
  | gone=>trivial
theorem gG{g g':Gh}{L:Nat}{o:AO}(hl:iV g g' L):gQ g' L o=gQ g L o:=by
 funext b;cases o<;>simp[gQ,hl.1,hl.2.1,hl.2.2]
theorem iI{P:Program}{g:Gh}{w:World}{B L b:Nat}{o:AO}(h:NU P g w B L o)(hb:gQ g L o b):b<w.heap.size:=by
 cases o with
 | box ty cs=>simp[gQ]at hb;subst hb;obtain⟨C,hC,_⟩:=h;exact(Us.1 hC).1
 | fbox cs=>simp[gQ]at hb
 | vec e s b' n get =>
  obtain⟨_,_,xs,hx,_⟩:=h;exact(hx.lt b hb).2
 | fvec s n get=>simp[gQ]at hb
 | vv te bb e s b' n ln get =>
  obtain⟨_,_,_,h4,h5,_⟩:=h;rcases hb with hb|⟨i,hi,hb⟩
  exact(h4.lt b hb).2;obtain⟨_,_,xs,hx,_⟩:=h5 i hi;exact(hx.lt b hb).2
 | vt te bb e s b' n ln get o =>
  obtain⟨_,_,_,h4,_,_,h5,_⟩:=h;rcases hb with hb|⟨i,hi,ho,hb⟩
  exact(h4.lt b hb).2;obtain⟨_,_,xs,hx,_⟩:=h5 i hi ho;exact(hx.lt b hb).2
 | mo kt vt q n F=>simp[gQ]at hb;subst hb;obtain⟨es,clock,hC,_⟩:=h;exact(Us.1 hC).1
 | gone=>exact hb.elim
section
variable{P:Program}{nt B:Nat}{w0:World}{h0:Fz}{g:Gh}{σ:St}{a:Act}{w:World}
theorem bW.log(S:bW P nt B w0 h0 g σ a w)(l:List (Nat×Nat×Nat)):bW P nt B w0 h0 g {σ with log:=l} a w :=
 ⟨S.dfr,S.size,S.env,S.obj,S.own,S.sep,S.hw,S.le0,S.hn,S.below,S.bs,S.clE,S.clO⟩
theorem zgJ(a:Act)(t:Nat)(v:Value)(u:Nat)(ht:t<a.tmps.size):(a.put (some t) v).tmps.getD u undef=if t=u then v else a.tmps.getD u undef:=by
 simp only[Act.put,xI,qdV];by_cases h:t=u;subst h;simp[ht];simp[h]
def YB(dst:Option Nat)(d:DV)(e:List (Nat×DV)):List (Nat×DV) :=
 match dst with|some t=>(t,d)::e|none=>e
theorem fO(σ:St)(i:Nat)(dst:Option Nat)(fp:List (Nat×Bool))(d:DV)(u:List (Nat×AO)):σ.upd i dst fp d u []=⟨YB dst d σ.env,u++σ.aB,σ.log⟩:=by
 cases dst<;>rfl
theorem bW.put(S:bW P nt B w0 h0 g σ a w){dst:Option Nat}{d:DV}{v:Value}(hd:dI nt dst=true)(hv:qM g d v)(hl:∀L∈cu d,∃o,lk σ.aB L=some o)
    (l:List (Nat×Nat×Nat)):bW P nt B w0 h0 g ⟨YB dst d σ.env,σ.aB,l⟩ (a.put dst v) w:=by
  cases dst with
  | none=>exact S.log l
  | some t =>
    have ht:t<nt:=by simpa [dI,qjb]using hd
    have hts:t<a.tmps.size:=qdt ht S.size;refine⟨S.dfr,by simpa [Act.put]using S.size,?_,S.obj,S.own,S.sep,S.hw,S.le0,S.hn,S.below,S.bs,?_,S.clO⟩;intro u e hu;rw[zgJ a t v u hts];simp only[YB,aW]at hu;split at hu;rename_i h;simp at hu;subst hu;rw[eX h];exact hv;rename_i h;rw[fF h];exact S.env u e hu;intro u e hu;simp only[YB,aW]at hu;split at hu;simp at hu;subst hu;exact hl;exact S.clE u e hu
theorem bW.change(S:bW P nt B w0 h0 g σ a w){g':Gh}{w':World}{Aj:List (Nat×AO)}
    (Aa:∀L o,lk σ.aB L=some o->iV g g' L) (hle:jP g.h g'.h) (Jp:Hw g'.h w')
    (hn':∀b o,g'.h b=some o->g.h b=some o\/B<=b) (hb:xx h0 B w w')
    (zPr:∀L o,lk Aj L=some o->NU P g' w' B L o) (iZ:∀L o b,lk Aj L=some o->gQ g' L o b->B<=b/\g'.h b=none)
    (IK:∀L o b L' o',lk Aj L=some o->lk Aj L'=some o'->gQ g' L o b->gQ g' L' o' b->L=L')
    (xP:∀L o,lk σ.aB L=some o->∃o',lk Aj L=some o') (zPs:∀L o,lk Aj L=some o->∀M∈dU o,∃o',lk Aj M=some o') :
    bW P nt B w0 h0 g' {σ with aB:=Aj} a w':=by
  refine⟨S.dfr.mono hle,S.size,?_,zPr,iZ,IK,Jp,λb o h=>hle _ _ (S.le0 b o h),?_,S.below.trans hb,Gv S.bs hb.size,?_,zPs⟩;intro t d ht;refine UM (λL hL=>?_) hle (S.env t d ht);obtain⟨o,ho⟩:=S.clE t d ht L hL;exact Aa L o ho;intro b o h;rcases hn' b o h with h|h
  exact S.hn b o h;exact .inr h;intro t d ht L hL;obtain⟨o,ho⟩:=S.clE t d ht L hL;exact xP L o ho
theorem bW.world(S:bW P nt B w0 h0 g σ a w){h':Fz}{w':World}(hle:jP g.h h')(Jp:Hw h' w')
    (hn':∀b o,h' b=some o->g.h b=some o\/w.heap.size<=b) (hb:xx g.h w.heap.size w w'):bW P nt B w0 h0 ⟨h',g.bk,g.sv,g.iv⟩ σ a w':=by
  have iw:∀L o b,lk σ.aB L=some o->gQ g L o b->b<w.heap.size:=λL o b ho cO=>iI (S.obj L o ho) cO
  have key := S.change (g' := ⟨h', g.bk, g.sv, g.iv⟩) (w' := w') (Aj := σ.aB) (fun _ _ _ => ⟨rfl, rfl, rfl⟩) hle Jp
    (λb o h=>(hn' b o h).imp id λh=>Gv S.bs h) ⟨hb.os,hb.tape,hb.output,hb.size,hb.drawn,λk hk=>hb.block k (qdt hk S.bs)⟩
    (λL o ho=>jM (S.obj L o ho) ⟨rfl,rfl,rfl⟩ (λ_ _=>⟨rfl,rfl,rfl⟩) hle λb cO=>hb.block b (iw L o b ho cO))
    (λL o b ho cO=>by
      have iq:gQ g L o b:=Eq.mp (qjT (gG (g:=g) (g':=⟨h',g.bk,g.sv,g.iv⟩) ⟨rfl,rfl,rfl⟩) _) cO;obtain⟨h1,h2⟩:=S.own L o b ho iq;refine⟨h1,?_⟩;cases hh:h' b with
      | none=>exact hh
      | some x =>
        rcases hn' b x hh with h3|h3
        rw[h2]at h3;cases h3;exact absurd (iw L o b ho iq) omY)
    (fun L o b L' o' ho kH cO iq => S.sep L o b L' o' ho kH
      (Eq.mp (qjT (gG (g:=g) (g':=⟨h',g.bk,g.sv,g.iv⟩) ⟨rfl,rfl,rfl⟩) _) cO) (Eq.mp (qjT (gG (g:=g) (g':=⟨h',g.bk,g.sv,g.iv⟩) ⟨rfl,rfl,rfl⟩) _) iq))
    (λL o h=>⟨o,h⟩) S.clO
  exact key
theorem uJ{h:Fz}(hw:Hw h w){b:Nat}{o:UF}(hb:h b=some o):b<w.heap.size:=hw.lt hb
def Gh.setBk(g:Gh)(t b:Nat):Gh:=⟨g.h,λL=>if L=t then b else g.bk L,g.sv,g.iv⟩
def Gh.setSv(g:Gh)(t:Nat)(v:Value):Gh:=⟨g.h,g.bk,λL=>if L=t then v else g.sv L,g.iv⟩
def Gh.setVv(g:Gh)(t:Nat)(v:Value)(iv:Nat->Value):Gh:=⟨g.h,g.bk,λL=>if L=t then v else g.sv L,λL=>if L=t then iv else g.iv L⟩
theorem bW.newBox(S:bW P nt B w0 h0 g σ a w){t ty:Nat}{cs:List Cl}{C:Array Value}(ht:lk σ.aB t=none)(hC:RL (ja g) cs C.toList)
    (Ad:∀M∈cs.flatMap bu,∃o,lk σ.aB M=some o) :
    bW P nt B w0 h0 (g.setBk t w.heap.size) {σ with aB:=(t,.box ty cs)::σ.aB} a (w.alloc (.cells C ty)):=by
  have jb:∀L o,lk σ.aB L=some o->L≠t:=λL o h e=>by subst e;rw[ht]at h;cases h
  have fB:∀L o,lk σ.aB L=some o->iV g (g.setBk t w.heap.size) L:=λL o h=>⟨by simp[Gh.setBk,jb L o h],rfl,rfl⟩;have hold:∀b,b<w.heap.size->(w.alloc (.cells C ty)).heap[b]? = w.heap[b]?:=λb hb=>heap_alloc_old w _ b hb;have jZ:∀L o,lk ((t,AO.box ty cs)::σ.aB) L=some o->(L=t/\o=.box ty cs)\/(L≠t/\lk σ.aB L=some o):=by
    intro L o h;rw[aW]at h;split at h;rename_i e;simp at h;exact .inl ⟨e.symm,h.symm⟩;rename_i e;exact .inr ⟨λe'=>e e'.symm,h⟩
  have iC:∀L o b,lk σ.aB L=some o->gQ (g.setBk t w.heap.size) L o b->gQ g L o b:=λL o b ho cO=>Eq.mp (qjT (gG (fB L o ho)) _) cO;refine S.change (g':=g.setBk t w.heap.size) fB (λ_ _ h=>h) ?_ (λb o h=>.inl h) (xx.of ⟨(Below.refl B w).alloc S.bs _,kw _⟩) ?_ ?_ ?_ ?_ ?_;exact S.hw.same λb o h=>hold b (uJ S.hw h);intro L o ho;rcases jZ L o ho with⟨rfl,rfl,rfl⟩|⟨_,ho⟩
  refine⟨C,by show(w.alloc _).heap[(if _ then w.heap.size else _)]? = _;rw [eX rfl];exact heap_alloc_new w _,sF (g:=g) (g':=g.setBk _ w.heap.size) (fun M hM => ?_) (fun _ _ h=>h) hC⟩;obtain⟨o,ho⟩:=Ad M hM;exact fB M o ho;refine jM (S.obj L o ho) (fB L o ho) (fun M hM => ?_) (fun _ _ h=>h) (fun b cO=>hold b (iI (S.obj L o ho) cO));obtain⟨o',kH⟩:=S.clO L o ho M hM;exact fB M o' kH;intro L o b ho cO;rcases jZ L o ho with⟨rfl,rfl,rfl⟩|⟨_,ho⟩
  · simp [gQ,Gh.setBk]at cO;subst cO;refine⟨S.bs,?_⟩;cases hh:g.h w.heap.size with|none=>exact hh|some x=>exact absurd (uJ S.hw hh) omY
  exact S.own L o b ho (iC L o b ho cO);intro L o b L' o' ho kH cO iq;rcases jZ L o ho with⟨rfl,rfl,rfl⟩|⟨hn,oh⟩<;>rcases jZ L' o' kH with⟨rfl,rfl,rfl⟩|⟨hn',mY⟩
  rfl;simp [gQ,Gh.setBk]at cO;subst cO;exact absurd (iI (S.obj L' o' mY) (iC _ _ _ mY iq)) omY;simp [gQ,Gh.setBk]at iq;subst iq;exact absurd (iI (S.obj L o oh) (iC _ _ _ oh cO)) omY;exact S.sep L o b L' o' oh mY (iC _ _ _ oh cO) (iC _ _ _ mY iq);intro L o ho;refine⟨o,?_⟩;rw[aW,fF (λe=>jb L o ho e.symm)];exact ho;intro L o ho M hM;have fin:∀M o,lk σ.aB M=some o->∃o',lk ((t,AO.box ty cs)::σ.aB) M=some o':=λM o h=>⟨o,by rw[aW,fF (λe=>jb M o h e.symm)];exact h⟩;rcases jZ L o ho with⟨rfl,rfl,rfl⟩|⟨_,ho⟩
  obtain⟨o,ho⟩:=Ad M hM;exact fin M o ho;obtain⟨o',kH⟩:=S.clO L o ho M hM;exact fin M o' kH
theorem bW.newVec(S:bW P nt B w0 h0 g σ a w){t e s b n:Nat}{get:Nat→List PV}{v:Value}{w':World}(ht:lk σ.aB t=none)
    (hb:JR B w w') (hold:∀b,b<w.heap.size->w'.heap[b]? = w.heap[b]?) (hv:∀b,v.ownBlock=some b->w.heap.size<=b)
    (hr:Cj P (g.setSv t v) w' B t e s b n get) :
    bW P nt B w0 h0 (g.setSv t v) {σ with aB:=(t,.vec e s b n get)::σ.aB} a w':=by
  have jb:∀L o,lk σ.aB L=some o->L≠t:=λL o h e=>by subst e;rw[ht]at h;cases h
  have fB:∀L o,lk σ.aB L=some o->iV g (g.setSv t v) L:=λL o h=>⟨rfl,by simp[Gh.setSv,jb L o h],rfl⟩;have jZ:∀L o,lk ((t,AO.vec e s b n get)::σ.aB) L=some o->(L=t/\o=.vec e s b n get)\/(L≠t/\lk σ.aB L=some o):=by
    intro L o h;rw[aW]at h;split at h;rename_i e;simp at h;exact .inl ⟨e.symm,h.symm⟩;rename_i e;exact .inr ⟨λe'=>e e'.symm,h⟩
  have iC:∀L o b,lk σ.aB L=some o->gQ (g.setSv t v) L o b->gQ g L o b:=λL o b ho cO=>Eq.mp (qjT (gG (fB L o ho)) _) cO;have TW:(g.setSv t v).sv t=v:=by simp[Gh.setSv]
  refine S.change (g':=g.setSv t v) fB (λ_ _ h=>h) ?_ (λb o h=>.inl h) (.of hb) ?_ ?_ ?_ ?_ ?_;exact S.hw.same λb o h=>hold b (uJ S.hw h);intro L o ho;rcases jZ L o ho with⟨rfl,rfl,rfl⟩|⟨_,ho⟩
  exact hr;refine jM (S.obj L o ho) (fB L o ho) (fun M hM => ?_) (fun _ _ h=>h) (fun b cO=>hold b (iI (S.obj L o ho) cO));obtain⟨o',kH⟩:=S.clO L o ho M hM;exact fB M o' kH;intro L o b' ho cO;rcases jZ L o ho with⟨rfl,rfl,rfl⟩|⟨_,ho⟩
  · simp only [gQ,TW]at cO;have h1:=hv b' cO;refine⟨Gv S.bs h1,?_⟩;cases hh:g.h b' with|none=>exact hh|some x=>exact absurd (uJ S.hw hh) omY
  exact S.own L o b' ho (iC L o b' ho cO);intro L o b' L' o' ho kH cO iq;rcases jZ L o ho with⟨rfl,rfl,rfl⟩|⟨hn,oh⟩<;>rcases jZ L' o' kH with⟨rfl,rfl,rfl⟩|⟨hn',mY⟩
  rfl;simp only [gQ,TW]at cO;have:=hv b' cO;exact absurd (iI (S.obj L' o' mY) (iC _ _ _ mY iq)) omY;simp only [gQ,TW]at iq;have:=hv b' iq;exact absurd (iI (S.obj L o oh) (iC _ _ _ oh cO)) omY;exact S.sep L o b' L' o' oh mY (iC _ _ _ oh cO) (iC _ _ _ mY iq);intro L o ho;refine⟨o,?_⟩;rw[aW,fF (λe=>jb L o ho e.symm)];exact ho;intro L o ho M hM;rcases jZ L o ho with⟨rfl,rfl,rfl⟩|⟨_,ho⟩
  simp[dU]at hM;obtain⟨o',kH⟩:=S.clO L o ho M hM;exact⟨o',by rw[aW,fF (λe=>jb M o' kH e.symm)];exact kH⟩
theorem bW.write2(S:bW P nt B w0 h0 g σ a w){L:Nat}{o o':AO}{w':World}(hL:lk σ.aB L=some o)(sV:∀b,gQ g L o' b→gQ g L o b)
    (hb:JR B w w') (qy:∀b,b<w.heap.size->¬gQ g L o b->w'.heap[b]? = w.heap[b]?) (hr:NU P g w' B L o') (Ad:∀M∈dU o',∃o,lk σ.aB M=some o) :
    bW P nt B w0 h0 g {σ with aB:=(L,o')::σ.aB} a w':=by
  have jZ:∀M x,lk ((L,o')::σ.aB) M=some x->(M=L/\x=o')\/(M≠L/\lk σ.aB M=some x):=by
    intro M x h;rw[aW]at h;split at h;rename_i e;simp at h;exact .inl ⟨e.symm,h.symm⟩;rename_i e;exact .inr ⟨λe'=>e e'.symm,h⟩
  have xP:∀M x,lk σ.aB M=some x->∃x',lk ((L,o')::σ.aB) M=some x':=by
    intro M x h;rw[aW];split;exact⟨o',rfl⟩;exact⟨x,h⟩
  refine S.change (g':=g) (λ_ _ _=>⟨rfl,rfl,rfl⟩) (λ_ _ h=>h) ?_ (λb o h=>.inl h) (.of hb) ?_ ?_ ?_ xP ?_;exact S.hw.same λb x h=>qy b (uJ S.hw h) (λe=>by have:=(S.own L o b hL e).2;rw[this]at h;cases h);intro M x hx;rcases jZ M x hx with⟨rfl,rfl,rfl⟩|⟨jb,hx⟩
  exact hr;exact jM (S.obj M x hx) ⟨rfl,rfl,rfl⟩ (λ_ _=>⟨rfl,rfl,rfl⟩) (λ_ _ h=>h) λb cO=>qy b (iI (S.obj M x hx) cO) λe=>jb (S.sep M x b L o hx hL cO e);intro M x b hx cO;rcases jZ M x hx with⟨rfl,rfl,rfl⟩|⟨_,hx⟩
  exact S.own M o b hL (sV b cO);exact S.own M x b hx cO;intro M x b M' x' hx xW cO iq;rcases jZ M x hx with⟨rfl,rfl,rfl⟩|⟨_,OM⟩<;>rcases jZ M' x' xW with⟨rfl,rfl,rfl⟩|⟨_,YC⟩
  rfl;exact S.sep M o b M' x' hL YC (sV b cO) iq;exact S.sep M x b M' o OM hL cO (sV b iq);exact S.sep M x b M' x' OM YC cO iq;intro M x hx N hN;rcases jZ M x hx with⟨rfl,rfl,rfl⟩|⟨_,hx⟩
  obtain⟨y,hy⟩:=Ad N hN;exact xP N y hy;obtain⟨y,hy⟩:=S.clO M x hx N hN;exact xP N y hy
theorem bW.write(S:bW P nt B w0 h0 g σ a w){L:Nat}{o o':AO}{w':World}(hL:lk σ.aB L=some o)(sV:∀b,gQ g L o' b→gQ g L o b)
    (hb:JR B w w') (qy:∀b,¬gQ g L o b->w'.heap[b]? = w.heap[b]?) (hr:NU P g w' B L o') (Ad:∀M∈dU o',∃o,lk σ.aB M=some o) :
    bW P nt B w0 h0 g {σ with aB:=(L,o')::σ.aB} a w':=S.write2 hL sV hb (λb _=>qy b) hr Ad
theorem JV{L:Nat}{v:Value}:∀M,M≠L->iV g (g.setSv L v) M:=λM h=>⟨rfl,by simp[Gh.setSv,h],rfl⟩
theorem YD{L:Nat}{v:Value}{iv:Nat->Value}:∀M,M≠L->iV g (g.setVv L v iv) M:=λM h=>⟨rfl,by simp[Gh.setVv,h],by simp[Gh.setVv,h]⟩
theorem bW.adopt(S:bW P nt B w0 h0 g σ a w){t e s b n:Nat}{get:Nat→List PV}{v:Value}(ht:lk σ.aB t=none)
    (hv:∀k,v.ownBlock=some k->B<=k/\g.h k=none/\∀L o,lk σ.aB L=some o->¬gQ g L o k) (hr:Cj P (g.setSv t v) w B t e s b n get) :
    bW P nt B w0 h0 (g.setSv t v) {σ with aB:=(t,.vec e s b n get)::σ.aB} a w:=by
  have jb:∀L o,lk σ.aB L=some o->L≠t:=λL o h e=>by subst e;rw[ht]at h;cases h
  have fB:∀L o,lk σ.aB L=some o->iV g (g.setSv t v) L:=λL o h=>JV L (jb L o h);have jZ:∀L o,lk ((t,AO.vec e s b n get)::σ.aB) L=some o->(L=t/\o=.vec e s b n get)\/(L≠t/\lk σ.aB L=some o):=by
    intro L o h;rw[aW]at h;split at h;rename_i e;simp at h;exact .inl ⟨e.symm,h.symm⟩;rename_i e;exact .inr ⟨λe'=>e e'.symm,h⟩
  have TW:(g.setSv t v).sv t=v:=by simp[Gh.setSv]
  have iC:∀L o k,lk σ.aB L=some o->gQ (g.setSv t v) L o k->gQ g L o k:=λL o k ho h=>by rw[gG (fB L o ho)]at h;exact h
  refine S.change (g':=g.setSv t v) fB (λ_ _ h=>h) S.hw (λb o h=>.inl h) (.refl _ B w) ?_ ?_ ?_ ?_ ?_;intro L o ho;rcases jZ L o ho with⟨rfl,rfl⟩|⟨_,ho⟩
  exact hr;exact jM (S.obj L o ho) (fB L o ho) (λM hM=>by obtain⟨o',kH⟩:=S.clO L o ho M hM;exact fB M o' kH) (λ_ _ h=>h) λ_ _=>rfl;intro L o k ho hk;rcases jZ L o ho with⟨rfl,rfl⟩|⟨_,ho⟩
  simp only[gQ,TW]at hk;exact⟨(hv k hk).1,(hv k hk).2.1⟩;exact S.own L o k ho (iC L o k ho hk);intro L o k L' o' ho kH hk jD;rcases jZ L o ho with⟨rfl,rfl⟩|⟨_,oh⟩<;>rcases jZ L' o' kH with⟨rfl,rfl⟩|⟨_,mY⟩
  rfl;simp only[gQ,TW]at hk;exact((hv k hk).2.2 L' o' mY (iC _ _ _ mY jD)).elim;simp only[gQ,TW]at jD;exact((hv k jD).2.2 L o oh (iC _ _ _ oh hk)).elim;exact S.sep L o k L' o' oh mY (iC _ _ _ oh hk) (iC _ _ _ mY jD);intro L o ho;refine⟨o,?_⟩;rw[aW,fF (λe=>jb L o ho e.symm)];exact ho;intro L o ho M hM;rcases jZ L o ho with⟨rfl,rfl⟩|⟨_,ho⟩
  simp[dU]at hM;obtain⟨o',kH⟩:=S.clO L o ho M hM;exact⟨o',by rw[aW,fF (λe=>jb M o' kH e.symm)];exact kH⟩
end
end Go.Pm
namespace Go.Pm
variable [aH]
open Go.RowKit (Below)
abbrev lX:=List (Nat×AO)
abbrev O9(s:Nat)(ln:Nat->Nat)(get:Nat->Nat->List PV):Nat->List PV:=λi=>[.sl (ln i) s (get i)]
def za3(ob:Nat->Option AO)(u:lX)(L:Nat)(o':AO):Prop :=
 (∃e s b n get,ob L=some (.vec e s b n get)/\o'=.fvec s n get) \/
 (∃ty cells l us,ob L=some (.box ty cells)/\o'=.fbox l/\mZ ob cells=some (l,us)/\∀x∈us,x∈u) \/
 (∃te bb e s b n ln get,ob L=some (.vv te bb e s b n ln get)/\o'=.fvec 1 n (O9 s ln get))
theorem za3.mono{ob:Nat->Option AO}{u u':lX}{L:Nat}{o':AO}(h:za3 ob u L o')(hu:∀x∈u,x∈u'):za3 ob u' L o':=by
 rcases h with h|⟨ty,cells,l,us,h1,h2,h3,h4⟩|h
 exact .inl h;exact .inr (.inl ⟨ty,cells,l,us,h1,h2,h3,λx hx=>hu x (h4 x hx)⟩);exact .inr (.inr h)
def fA(ob:Nat->Option AO)(u:lX):Prop:=∀x∈u,za3 ob u x.1 x.2
theorem fA.append{ob:Nat->Option AO}{u u':lX}(h:fA ob u)(h':fA ob u'):fA ob (u++u'):=by
 intro x hx;rcases dW.1 hx with hx|hx
 exact(h x hx).mono λy hy=>dW.2 (.inl hy);exact(h' x hx).mono λy hy=>dW.2 (.inr hy)
theorem fA.nil(ob:Nat->Option AO):fA ob []:=λx hx=>by simp at hx
section
variable{ob:Nat->Option AO}
theorem QK{c:Cl}{v:PV}{u:lX}(h:zM ob c=some (v,u)):fA ob u:=by
 unfold zM at h;split at h;simp only[bQ,gm]at h;rw[<- h.2];exact fA.nil ob;split at h;rename_i e s b n get hL;simp at h;rw[<- h.2];intro x hx;simp at hx;subst hx;exact .inl ⟨_,_,_,_,_,hL,rfl⟩;simp only[bQ,gm]at h;rw[<- h.2];exact fA.nil ob;rename_i te bb e s b n ln get hL;simp only[bQ,gm]at h;rw[<- h.2];intro x hx;simp only[kY]at hx;subst hx;exact .inr (.inr ⟨_,_,_,_,_,_,_,_,hL,rfl⟩);cases h;cases h
theorem JW:∀{cs:List Cl}{l:List PV}{u:lX},jr ob cs=some (l,u)→fA ob u
  | [],l,u,h=>by simp[jr]at h;rw[h.2];exact fA.nil ob
  | c::cs,l,u,h=>by
    simp only[jr]at h;split at h;rename_i v u1 l2 u2 h1 h2;simp at h;rw[<- h.2];exact(QK h1).append (JW h2);cases h
theorem zwH{c:Cl}{x:PV×lX}(h:zM ob c=some x):Ob ob c=some x:=by
 cases c<;>first|exact h|cases h
theorem QL:∀{cs:List Cl}{x:List PV×lX},jr ob cs=some x→mZ ob cs=some x
  | [],x,h=>h
  | c::cs,x,h=>by
    simp only[jr]at h;split at h;rename_i v u1 l2 u2 h1 h2;simp only[mZ,zwH h1,QL h2];exact h;cases h
theorem zm4{c:Cl}{v:PV}{u:lX}(h:Ob ob c=some (v,u)):fA ob u:=by
 unfold Ob at h;split at h;split at h;rename_i L off ty cells hL;split at h;rename_i l us hl;simp at h;rw[<- h.2];intro x hx;rcases dW.1 hx with hx|hx
 exact(JW hl x hx).mono λy hy=>dW.2 (.inl hy);simp at hx;subst hx;exact .inr (.inl ⟨_,_,_,_,hL,rfl,QL hl,λy hy=>dW.2 (.inl hy)⟩);cases h;simp only[bQ,gm]at h;rw[<- h.2];exact fA.nil ob;cases h;exact QK h
theorem UQ:∀{cs:List Cl}{l:List PV}{u:lX},mZ ob cs=some (l,u)→fA ob u
  | [],l,u,h=>by simp[mZ]at h;rw[h.2];exact fA.nil ob
  | c::cs,l,u,h=>by
    simp only[mZ]at h;split at h;rename_i v u1 l2 u2 h1 h2;simp at h;rw[<- h.2];exact(zm4 h1).append (UQ h2);cases h
theorem za4{c:Cl}{v:PV}{u:lX}(h:Ju ob c=some (v,u)):fA ob u:=by
 unfold Ju at h;split at h;split at h;rename_i L off ty cells hL;split at h;rename_i l us hl;simp at h;rw[<- h.2];intro x hx;rcases dW.1 hx with hx|hx
 exact(UQ hl x hx).mono λy hy=>dW.2 (.inl hy);simp at hx;subst hx;exact .inr (.inl ⟨_,_,_,_,hL,rfl,hl,λy hy=>dW.2 (.inl hy)⟩);cases h;simp only[bQ,gm]at h;rw[<- h.2];exact fA.nil ob;cases h;exact QK h
theorem UR:∀{cs:List Cl}{l:List PV}{u:lX},rY ob cs=some (l,u)→fA ob u
  | [],l,u,h=>by simp[rY]at h;rw[h.2];exact fA.nil ob
  | c::cs,l,u,h=>by
    simp only[rY]at h;split at h;rename_i v u1 l2 u2 h1 h2;simp at h;rw[<- h.2];exact(za4 h1).append (UR h2);cases h
theorem YE{c:Cl}{v:PV}{u:lX}(h:frz ob c=some (v,u)):fA ob u:=by
 unfold frz at h;split at h;split at h;rename_i l us hl;simp only[bQ,gm]at h;rw[<- h.2];exact UR hl;cases h;exact za4 h
theorem IU:∀{cs:List Cl}{l:List PV}{u:lX},tq ob cs=some (l,u)→fA ob u
  | [],l,u,h=>by simp[tq]at h;rw[h.2];exact fA.nil ob
  | c::cs,l,u,h=>by
    simp only[tq]at h;split at h;rename_i v u1 l2 u2 h1 h2;simp at h;rw[<- h.2];exact(YE h1).append (IU h2);cases h
theorem CB{d:DV}{v:PA}{u:lX}(h:zN ob d=some (v,u)):fA ob u:=by
 unfold zN at h;split at h;split at h;rename_i v' u' h1;simp at h;rw[<- h.2];exact YE h1;cases h;split at h;rename_i v' u' h1;simp at h;rw[<- h.2];exact IU h1;cases h;cases h
theorem yt:∀{cs:List DV}{l:List PA}{u:lX},iy ob cs=some (l,u)→fA ob u
  | [],l,u,h=>by simp[iy]at h;rw[h.2];exact fA.nil ob
  | c::cs,l,u,h=>by
    simp only[iy]at h;split at h;rename_i v u1 l2 u2 h1 h2;simp at h;rw[<- h.2];exact(CB h1).append (yt h2);cases h
end
structure fG (g : Gh) (ob : Nat → Option AO) (u : lX) (h' : Fz) : Prop where
  le:jP g.h h'
  vec:∀L e s b n get,ob L=some (.vec e s b n get)->(L,AO.fvec s n get)∈u->Rep h' (.sl n s get) (g.sv L)
  fvec:∀L s n get,ob L=some (.fvec s n get)->Rep h' (.sl n s get) (g.sv L)
  vv:∀L te bb e s b n ln get,ob L=some (.vv te bb e s b n ln get)->(L,AO.fvec 1 n (O9 s ln get))∈u->Rep h' (.sl n 1 (O9 s ln get)) (g.sv L)
  box:∀L ty cells l us,ob L=some (.box ty cells)->mZ ob cells=some (l,us)->(∀x∈us,x∈u)->(L,AO.fbox l)∈u->∃C,h' (g.bk L)=some (.fz (.cells C ty (0,0)))/\RL (Rep h') l C.toList
  fbox:∀L l,ob L=some (.fbox l)->∃C ty fr,h' (g.bk L)=some (.fz (.cells C ty fr))/\RL (Rep h') l C.toList
  new:∀b,g.h b=none->∀o,h' b=some o->∃L x o',(L,o')∈u/\ob L=some x/\gQ g L x b
section
variable{g:Gh}{ob:Nat->Option AO}{u:lX}{h':Fz}
theorem fG.rep0(F:fG g ob u h'){c:Cl}{v:PV}{us:lX}{x:Value}(h:zM ob c=some (v,us))(hu:∀y∈us,y∈u)(hc:ja g c x):Rep h' v x:=by
 unfold zM at h;split at h;simp at h;rw[<- h.1];exact Rep.mono F.le hc;split at h;rename_i L _x e s b n get hL;simp at h;rw[<- h.1];rw[<- h.2]at hu;obtain⟨rfl,_⟩:=hc;exact F.vec L e _ b n get hL (hu _ (by simp));rename_i L _x s n get hL;simp at h;rw[<- h.1];obtain⟨rfl,_⟩:=hc;exact F.fvec L _ n get hL;rename_i L _x te bb e s b n ln get hL;simp only[bQ,gm]at h;rw[<- h.1];rw[<- h.2]at hu;obtain⟨rfl,_⟩:=hc;exact F.vv L te bb e s b n ln get hL (hu _ (by simp));cases h;cases h
theorem fG.repL0(F:fG g ob u h'):∀{cs:List Cl}{l:List PV}{us:lX}{vs:List Value},jr ob cs=some (l,us)→(∀y∈us,y∈u)→RL (ja g) cs vs→RL (Rep h') l vs
  | [],l,us,vs,h,hu,hc=>by
    simp[jr]at h;rw[h.1];cases vs with|nil=>trivial|cons=>exact hc.elim
  | c::cs,l,us,[],h,hu,hc=>hc.elim
  | c::cs,l,us,v::vs,h,hu,hc=>by
    simp only[jr]at h;split at h;rename_i v1 u1 l2 u2 h1 h2;simp at h;rw[<- h.1];rw[<- h.2]at hu;exact⟨F.rep0 h1 (λy hy=>hu y (dW.2 (.inl hy))) hc.1,F.repL0 h2 (λy hy=>hu y (dW.2 (.inr hy))) hc.2⟩;cases h
theorem QM{h:Fz}{b:Nat}{C:Array Value}{ty:TypeId}{fr:Nat×Nat}{l:List PV}(hb:h b=some (.fz (.cells C ty fr)))(hr:RL (Rep h) l C.toList)(off:Nat) :
    Rep h (.fp l off) (.pointer (some ⟨b,off,none⟩)):=by
  have := Rep.fp (h := h) l off b 0 C ty fr (fun j => C.getD j undef) hb
    (λj x hj=>by
      obtain⟨v,hv,_⟩:=hr.get j x hj;have AC:C[j]? = some v:=by simpa using hv
      simp[xI,AC])
    (λj x hj=>by
      obtain⟨v,hv,hx⟩:=hr.get j x hj;have AC:C[j]? = some v:=by simpa using hv
      simpa [xI,AC]using hx)
  simpa using this
theorem fG.repA(F:fG g ob u h'){c:Cl}{v:PV}{us:lX}{x:Value}(h:Ju ob c=some (v,us))(hu:∀y∈us,y∈u)(hc:ja g c x):Rep h' v x:=by
 unfold Ju at h;split at h;split at h;rename_i L off _x ty cells hL;split at h;rename_i l us' hl;simp at h;rw[<- h.1];rw[<- h.2]at hu;obtain⟨C,hC,hr⟩:=F.box L ty cells l us' hL hl (λy hy=>hu y (dW.2 (.inl hy))) (hu _ (by simp));simp only[ja]at hc;rw[hc];exact QM hC hr off;cases h;rename_i L off _x l hL;simp at h;rw[<- h.1];obtain⟨C,ty,fr,hC,hr⟩:=F.fbox L l hL;simp only[ja]at hc;rw[hc];exact QM hC hr off;cases h;exact F.rep0 h hu hc
theorem fG.repAL(F:fG g ob u h'):∀{cs:List Cl}{l:List PV}{us:lX}{vs:List Value},rY ob cs=some (l,us)→(∀y∈us,y∈u)→RL (ja g) cs vs→RL (Rep h') l vs
  | [],l,us,vs,h,hu,hc=>by
    simp[rY]at h;rw[h.1];cases vs with|nil=>trivial|cons=>exact hc.elim
  | c::cs,l,us,[],h,hu,hc=>hc.elim
  | c::cs,l,us,v::vs,h,hu,hc=>by
    simp only[rY]at h;split at h;rename_i v1 u1 l2 u2 h1 h2;simp at h;rw[<- h.1];rw[<- h.2]at hu;exact⟨F.repA h1 (λy hy=>hu y (dW.2 (.inl hy))) hc.1,F.repAL h2 (λy hy=>hu y (dW.2 (.inr hy))) hc.2⟩;cases h
theorem fG.rep(F:fG g ob u h'){c:Cl}{v:PV}{us:lX}{x:Value}(h:frz ob c=some (v,us))(hu:∀y∈us,y∈u)(hc:ja g c x):Rep h' v x:=by
 unfold frz at h;split at h;rename_i f caps;split at h;rename_i l us' hl;simp only[bQ,gm]at h;obtain⟨rfl,rfl⟩:=h;obtain⟨cv,rfl,hr⟩:=hc;have hr2:RL (ja g) (caps.map zdl) cv:=RL.map_left.2 (hr.mono λc y hy=>by
  cases c with|v p=>exact hy|b L=>exact hy)
 have hl2:=F.repAL hl hu hr2;exact .fn f [] l [] cv rfl hl2.length (λi x y hx _=>by simp at hx) (λi x y hx hy=>by obtain⟨v,hv,hr3⟩:=hl2.get i x hx;rw[hv]at hy;exact Yg hy▸hr3);cases h;exact F.repA h hu hc
theorem fG.repL(F:fG g ob u h'):∀{cs:List Cl}{l:List PV}{us:lX}{vs:List Value},tq ob cs=some (l,us)→(∀y∈us,y∈u)→RL (ja g) cs vs→RL (Rep h') l vs
  | [],l,us,vs,h,hu,hc=>by
    simp[tq]at h;rw[h.1];cases vs with|nil=>trivial|cons=>exact hc.elim
  | c::cs,l,us,[],h,hu,hc=>hc.elim
  | c::cs,l,us,v::vs,h,hu,hc=>by
    simp only[tq]at h;split at h;rename_i v1 u1 l2 u2 h1 h2;simp at h;rw[<- h.1];rw[<- h.2]at hu;exact⟨F.rep h1 (λy hy=>hu y (dW.2 (.inl hy))) hc.1,F.repL h2 (λy hy=>hu y (dW.2 (.inr hy))) hc.2⟩;cases h
theorem fG.repD(F:fG g ob u h'){d:DV}{v:PA}{us:lX}{x:Value}(h:zN ob d=some (v,us))(hu:∀y∈us,y∈u)(hc:qM g d x):nN h' v x:=by
 unfold zN at h;split at h;split at h;rename_i v' u' h1;simp at h;rw[<- h.1];rw[<- h.2]at hu;exact F.rep h1 hu hc;cases h;split at h;rename_i v' u' h1;simp at h;rw[<- h.1];rw[<- h.2]at hu;obtain⟨vs,rfl,hr⟩:=hc;exact⟨vs,rfl,F.repL h1 hu hr⟩;cases h;cases h
theorem fG.repDs(F:fG g ob u h'):∀{ds:List DV}{l:List PA}{us:lX}{vs:List Value},iy ob ds=some (l,us)→(∀y∈us,y∈u)→RL (qM g) ds vs→RL (nN h') l vs
  | [],l,us,vs,h,hu,hc=>by
    simp[iy]at h;rw[h.1];cases vs with|nil=>trivial|cons=>exact hc.elim
  | c::cs,l,us,[],h,hu,hc=>hc.elim
  | c::cs,l,us,v::vs,h,hu,hc=>by
    simp only[iy]at h;split at h;rename_i v1 u1 l2 u2 h1 h2;simp at h;rw[<- h.1];rw[<- h.2]at hu;exact⟨F.repD h1 (λy hy=>hu y (dW.2 (.inl hy))) hc.1,F.repDs h2 (λy hy=>hu y (dW.2 (.inr hy))) hc.2⟩;cases h
end
theorem fH{α:Type}{l:List (Nat×α)}{n:Nat}{a:α}(h:lk l n=some a):(n,a)∈l:=by
 induction l with
 | nil=>simp[lk]at h
 | cons x l ih =>
  obtain⟨k,y⟩:=x;rw[aW]at h;split at h;rename_i e;simp at h;subst h;subst e;exact kQ;exact jS _ (ih h)
theorem QN{α:Type}{l:List (Nat×α)}{n:Nat}(h:lk l n=none):∀a,(n,a)∉l:=by
 induction l with
 | nil=>intro a h;simp at h
 | cons x l ih =>
  obtain⟨k,y⟩:=x;rw[aW]at h;split at h;cases h;rename_i e;intro a ha;rcases kF.1 ha with h1|h1
  simp at h1;exact e h1.1.symm;exact ih h a h1
theorem yu{g:Gh}{w:World}{B e s n:Nat}{v:Value}{get:Nat→List PV}{h':Fz}{xs:List Value}(hu:tH get)(hs:0<s)(hx:w.ownsRow B e s v n xs)
    (hr:∀i,i<n->RL (Rep g.h) (get i) ((xs.drop (i*s)).take s)) (hle:jP g.h h') (hb:∀k,v.ownBlock=some k->h' k=(w.heap[k]?).map .fz):Rep h' (.sl n s get) v:=by
  rcases hx.2 with⟨h1,rfl⟩|⟨k,cap,cur,h1,hB,hg,hn,ku,jH,htk⟩
  rw[h1];exact .sl0 s get hu;rw [h1]at hb ⊢;have hk:=hb k rfl;rw[hg]at hk;simp only[QA]at hk;have hlen:∀i,i<n->(get i).length=s:=by
    intro i hi;rw[(hr i hi).length];simp only[qdF,qdd,hx.1];have:i*s+s<=n*s:=by have:=Qz s (qdl hi);rw[Uf]at this;exact this
    omega
  have nG:∀i j x,i<n->(get i)[j]? = some x->∃v,cur[i*s+j]? = some v/\Rep g.h x v:=by
    intro i j x hi hj;obtain⟨v,hv,xH⟩:=(hr i hi).get j x hj;refine⟨v,?_,xH⟩;have hjs:j<s:=by
      have:=(AL.1 hj).1;rw[hlen i hi]at this;exact this
    rw[IL,eX hjs,qdg,<- htk,IL]at hv;split at hv;simpa using hv;cases hv
  refine .sl n s get hu k 0 cap cur e (0,0) (λi j=>cur.getD (i*s+j) undef) hk hn hlen ?_ ?_;intro i j x hi hj;obtain⟨v,hv,_⟩:=nG i j x hi hj;rw[Oa,xI,hv];rfl;intro i j x hi hj;obtain⟨v,hv,xH⟩:=nG i j x hi hj;simp only[xI,hv,qdE];exact xH.mono hle
theorem zm5{P:Program}{g:Gh}{w:World}{B L e s b n:Nat}{get:Nat→List PV}{h':Fz}(hv:Cj P g w B L e s b n get)(hle:jP g.h h')
    (hb:∀k,(g.sv L).ownBlock=some k->h' k=(w.heap[k]?).map .fz):Rep h' (.sl n s get) (g.sv L):=by
  obtain⟨hs,_,xs,hx,hr⟩:=hv;exact yu hs.1 hs.2 hx hr hle hb
theorem zwI{P:Program}{g:Gh}{w:World}{B L te bb e s b n:Nat}{ln:Nat→Nat}{get:Nat→Nat→List PV}{h':Fz}(hv:vvR P g w B L te bb e s b n ln get)(hle:jP g.h h')
    (hb:∀k,gQ g L (.vv te bb e s b n ln get) k->h' k=(w.heap[k]?).map .fz):Rep h' (.sl n 1 (O9 s ln get)) (g.sv L):=by
  obtain⟨hs,_,_,h4,h5,_⟩:=hv;refine yu (g:=⟨h',g.bk,g.sv,g.iv⟩) (λi j=>⟨tH.sl (λk l=>hs.1 i k j l) _ _ _,trivial⟩) (by decide) h4 ?_ (λ_ _ h=>h) λk hk=>hb k (.inl hk);intro i hi;have e1:(((List.range n).map (g.iv L)).drop (i*1)).take 1=[g.iv L i]:=by
    apply qdf;intro j;rw[IL];cases j with|zero=>simp[hi]|succ j=>simp
  rw[e1];obtain⟨_,_,xs,hx,hr⟩:=h5 i hi;exact⟨yu (λj k=>hs.1 i j i k) hs.2 hx hr hle λk hk=>hb k (.inr ⟨i,hi,hk⟩),trivial⟩
open Classical in
theorem bW.freeze{P:Program}{nt B:Nat}{w0:World}{h0:Fz}{g:Gh}{σ:St}{a:Act}{w:World}(S:bW P nt B w0 h0 g σ a w){u:lX}(hu:fA (lk σ.aB) u) :
  ∃h',bW P nt B w0 h0 ⟨h',g.bk,g.sv,g.iv⟩ {σ with aB:=u++σ.aB} a w/\fG g (lk σ.aB) u h':=by
 let inU:Nat->Prop:=λb=>∃L o o',(L,o')∈u/\lk σ.aB L=some o/\gQ g L o b;let h':Fz:=λb=>if inU b then(w.heap[b]?).map .fz else g.h b;have hle:jP g.h h':=by
  intro b o hb;show(if inU b then(w.heap[b]?).map .fz else g.h b)=some o;split;rename_i h;obtain⟨L,x,o',_,hL,cO⟩:=h;rw[(S.own L x b hL cO).2]at hb;cases hb;exact hb
 have Ym:∀b,inU b->h' b=(w.heap[b]?).map .fz:=λb hb=>eX hb;have EJ:∀b,¬inU b->h' b=g.h b:=λb hb=>fF hb;have F1:∀L e s b n get,lk σ.aB L=some (.vec e s b n get)->(L,AO.fvec s n get)∈u->Rep h' (.sl n s get) (g.sv L):=by
  intro L e s b n get hL hm;exact zm5 (S.obj L _ hL) hle λk hk=>Ym k ⟨L,_,_,hm,hL,hk⟩
 have F3:∀L te bb e s b n ln get,lk σ.aB L=some (.vv te bb e s b n ln get)->(L,AO.fvec 1 n (O9 s ln get))∈u->Rep h' (.sl n 1 (O9 s ln get)) (g.sv L):=by
  intro L te bb e s b n ln get hL hm;exact zwI (S.obj L _ hL) hle λk hk=>Ym k ⟨L,_,_,hm,hL,hk⟩
 have F2:∀L s n get,lk σ.aB L=some (.fvec s n get)->Rep h' (.sl n s get) (g.sv L):=λL s n get hL=>Rep.mono hle (S.obj L _ hL).1;have F0:fG g (lk σ.aB) u h':=by
  have Fpre:∀{cs:List Cl}{l:List PV}{us:lX}{vs:List Value},jr (lk σ.aB) cs=some (l,us)->(∀y∈us,y∈u)->RL (ja g) cs vs->RL (Rep h') l vs:=by
   intro cs
   induction cs with
   | nil =>
    intro l us vs h _ hc;simp[jr]at h;rw[h.1];cases vs with|nil=>trivial|cons=>exact hc.elim
   | cons c cs ih =>
    intro l us vs h NQ hc;cases vs with
    | nil=>exact hc.elim
    | cons v vs =>
     simp only[jr]at h;split at h;rename_i v1 u1 l2 u2 h1 h2;simp at h;rw[<- h.1];rw[<- h.2]at NQ;refine⟨?_,ih h2 (λy hy=>NQ y (dW.2 (.inr hy))) hc.2⟩;have hu1:∀y∈u1,y∈u:=λy hy=>NQ y (dW.2 (.inl hy));have EI:=hc.1;unfold zM at h1;split at h1;simp at h1;rw[<- h1.1];exact Rep.mono hle EI;split at h1;rename_i L _x e s b n get hL;simp at h1;rw[<- h1.1];rw[<- h1.2]at hu1;obtain⟨rfl,_⟩:=EI;exact F1 L e _ b n get hL (hu1 _ (by simp));rename_i L _x s n get hL;simp at h1;rw[<- h1.1];obtain⟨rfl,_⟩:=EI;exact F2 L _ n get hL;rename_i L _x te bb e s b n ln get hL;simp only[bQ,gm]at h1;rw[<- h1.1];rw[<- h1.2]at hu1;obtain⟨rfl,_⟩:=EI;exact F3 L te bb e s b n ln get hL (hu1 _ (by simp));cases h1;cases h1;cases h
  have Fbox:∀L l,lk σ.aB L=some (.fbox l)->∃C ty fr,h' (g.bk L)=some (.fz (.cells C ty fr))/\RL (Rep h') l C.toList:=by
   intro L l hL;obtain⟨C,ty,fr,hC,hr⟩:=S.obj L _ hL;exact⟨C,ty,fr,hle _ _ hC,hr.mono λ_ _=>Rep.mono hle⟩
  have FpreB:∀{cs:List Cl}{l:List PV}{us:lX}{vs:List Value},mZ (lk σ.aB) cs=some (l,us)->(∀y∈us,y∈u)->RL (ja g) cs vs->RL (Rep h') l vs:=by
   intro cs
   induction cs with
   | nil =>
    intro l us vs h _ hc;simp[mZ]at h;rw[h.1];cases vs with|nil=>trivial|cons=>exact hc.elim
   | cons c cs ih =>
    intro l us vs h NQ hc;cases vs with
    | nil=>exact hc.elim
    | cons v vs =>
     simp only[mZ]at h;split at h;rename_i v1 u1 l2 u2 h1 h2;simp at h;rw[<- h.1];rw[<- h.2]at NQ;refine⟨?_,ih h2 (λy hy=>NQ y (dW.2 (.inr hy))) hc.2⟩;have hu1:∀y∈u1,y∈u:=λy hy=>NQ y (dW.2 (.inl hy));have EI:=hc.1;have low:zM (lk σ.aB) c=some (v1,u1)->Rep h' v1 v:=λh0=>(Fpre (cs:=[c]) (l:=[v1]) (us:=u1) (vs:=[v]) (by simp[jr,h0]) hu1 ⟨EI,trivial⟩).1;unfold Ob at h1;split at h1;split at h1;rename_i L off _x ty cells hL;split at h1;rename_i l' us' hl;simp at h1;rw[<- h1.1];rw[<- h1.2]at hu1;obtain⟨C,hC,hr⟩:=S.obj L _ hL;have hm:(L,AO.fbox l')∈u:=hu1 _ (by simp);have hk:h' (g.bk L)=some (.fz (.cells C ty (0,0))):=by
      rw[Ym (g.bk L) ⟨L,_,_,hm,hL,rfl⟩,hC];rfl
     simp only[ja]at EI;rw[EI];exact QM hk (Fpre hl (λy hy=>hu1 y (dW.2 (.inl hy))) hr) off;cases h1;rename_i L off _x l' hL;simp at h1;rw[<- h1.1];obtain⟨C,ty,fr,hC,hr⟩:=Fbox L l' hL;simp only[ja]at EI;rw[EI];exact QM hC hr off;cases h1;exact low h1;cases h
  refine⟨hle,F1,F2,F3,?_,?_,λb hb o ho=>?_⟩
  rotate_left 2
  by_cases h:inU b;obtain⟨L,x,o',h1,h2,h3⟩:=h;exact⟨L,x,o',h1,h2,h3⟩;rw[EJ b h,hb]at ho;cases ho;intro L ty cells l us hL hl NQ hm;obtain⟨C,hC,hr⟩:=S.obj L _ hL;refine⟨C,?_,FpreB hl NQ hr⟩;rw[Ym (g.bk L) ⟨L,_,_,hm,hL,rfl⟩,hC];rfl;exact Fbox
 refine⟨h',?_,F0⟩;have jZ:∀L o,lk (u++σ.aB) L=some o->((L,o)∈u)\/((∀o',(L,o')∉u)/\lk σ.aB L=some o):=by
  intro L o h;rw[gU]at h;cases hL:lk u L with|some x=>simp only[hL]at h;simp at h;subst h;exact .inl (fH hL)|none=>simp only[hL]at h;exact .inr ⟨QN hL,h⟩
 have hfr:∀L o b,(L,o)∈u->¬gQ (⟨h',g.bk,g.sv,g.iv⟩:Gh) L o b:=by
  intro L o b h;rcases hu _ h with⟨e,s,b,n,get,_,h2⟩|⟨ty,cells,l,us,_,h2,_⟩|⟨te,bb,e,s,b,n,ln,get,_,h2⟩<;>(simp only at h2;rw[h2];exact id)
 have iC:∀L o,gQ (⟨h',g.bk,g.sv,g.iv⟩:Gh) L o=gQ g L o:=λL o=>gG (g:=g) (g':=⟨h',g.bk,g.sv,g.iv⟩) ⟨rfl,rfl,rfl⟩;have xP:∀L o,lk σ.aB L=some o->∃o',lk (u++σ.aB) L=some o':=by
  intro L o h;rw[gU];cases lk u L with|some x=>exact⟨x,rfl⟩|none=>exact⟨o,h⟩
 refine S.change (g':=⟨h',g.bk,g.sv,g.iv⟩) (λ_ _ _=>⟨rfl,rfl,rfl⟩) hle ?_ ?_ (.refl _ B w) ?_ ?_ ?_ xP ?_;intro b o hb;have mW:h' b=some o:=hb;by_cases h:inU b;rw [Ym b h]at mW;obtain⟨x,hx,rfl⟩:=Ye.1 mW;exact⟨x,hx,rfl⟩;rw[EJ b h]at mW;exact S.hw b o mW;intro b o hb;by_cases h:inU b;obtain⟨L,x,o',hm,hL,cO⟩:=h;exact .inr (S.own L x b hL cO).1;have mW:h' b=some o:=hb;rw[EJ b h]at mW;exact .inl mW;intro L o ho;rcases jZ L o ho with hm|⟨hn,ho⟩
 rcases hu _ hm with⟨e,s,b,n,get,h1,h2⟩|⟨ty,cells,l,us,h1,h2,h3,h4⟩|⟨te,bb,e,s,b,n,ln,get,h1,h2⟩
 simp only at h1 h2;rw [h2];rw [h2]at hm;refine⟨F0.vec L e s b n get h1 hm,?_⟩;obtain⟨_,_,xs,hx,_⟩:=S.obj L _ h1;intro x m c hv;show x.off=0;have AC:g.sv L=.slice (some x) m c:=hv;rcases hx.2 with⟨h5,_⟩|⟨k,cap,cur,h5,_⟩
 rw[h5]at AC;simp at AC;rw[h5]at AC;simp at AC;rw[<- AC.1];simp only at h1 h2;rw [h2];rw [h2]at hm;obtain⟨C,hC,hr⟩:=F0.box L ty cells l us h1 h3 h4 hm;exact⟨C,ty,(0,0),hC,hr⟩;simp only at h1 h2;rw [h2];rw [h2]at hm;refine⟨F0.vv L te bb e s b n ln get h1 hm,?_⟩;obtain⟨_,_,_,hx,_⟩:=S.obj L _ h1;intro x m c hv;show x.off=0;have AC:g.sv L=.slice (some x) m c:=hv;rcases hx.2 with⟨h5,_⟩|⟨k,cap,cur,h5,_⟩
 rw[h5]at AC;simp at AC;rw[h5]at AC;simp at AC;rw[<- AC.1];exact jM (S.obj L o ho) ⟨rfl,rfl,rfl⟩ (λ_ _=>⟨rfl,rfl,rfl⟩) hle λ_ _=>rfl;intro L o b ho cO;rcases jZ L o ho with hm|⟨hn,ho⟩
 exact(hfr L o _ hm cO).elim;rw [iC]at cO;obtain⟨h1,h2⟩:=S.own L o b ho cO;refine⟨h1,?_⟩;show h' b=none;rw[EJ b ?_];exact h2;rintro⟨M,x,o',hm,hM,iq⟩;have:=S.sep L o b M x ho hM cO iq;subst this;exact hn o' hm;intro L o b L' o' ho kH cO iq;rcases jZ L o ho with hm|⟨_,oh⟩
 exact(hfr L o _ hm cO).elim;rcases jZ L' o' kH with hm|⟨_,mY⟩
 exact(hfr L' o' _ hm iq).elim;rw[iC]at cO iq;exact S.sep L o b L' o' oh mY cO iq;intro L o ho M hM;rcases jZ L o ho with hm|⟨_,oh⟩
 rcases hu _ hm with⟨e,s,b,n,get,_,h2⟩|⟨ty,cells,l,us,_,h2,_⟩|⟨te,bb,e,s,b,n,ln,get,_,h2⟩<;>(simp only at h2;rw[h2]at hM;simp[dU]at hM)
 obtain⟨x,hx⟩:=S.clO L o oh M hM;exact xP M x hx
end Go.Pm
namespace Go.Pm
variable [aH]
open Go.RowKit (Below)
def aJ.safe:aJ→Prop|.no=>False|.val _ _ _ _=>True|.chk _ s _ _ _=>s.p
def nP(A:aJ)(i:Nat)(dst:Option Nat)(σ σ':St):Prop :=
 match A with|.no=>False|.val fp d u kl=>σ'=σ.upd i dst fp d u kl|.chk fp _ d u kl=>σ'=σ.upd i dst fp d u kl
theorem E8{A:aJ}{lg:List (Nat×Bool)→List Nat→List (Nat×Nat×Nat)}{i:Nat}{dst:Option Nat}{K:St→Prop}{σ:St} :
  ni A lg i dst K σ↔A.safe/\∀σ',nP A i dst σ σ'->K (σ'.relog (match A with | .val fp _ _ kl=>lg fp kl | .chk fp _ _ _ kl=>lg fp kl | .no=>[])):=by
 cases A with|no=>simp[ni,aJ.safe]|val fp d u kl=>simp[ni,aJ.safe,nP]|chk fp s d u kl=>simp[ni,aJ.safe,nP]
def FR(r:Option Nat):Fence:={fn:=λ_=>True,depth:=none,alive:=false,round:=r}
theorem JX{r:Option Nat}{n:Nat}{P:Program}{f:FuncId}{args:Array Value}{w:World}{R:Ending->World->Prop}(h:Calls P f args w R):CallsIn (FR r) n P f args w R :=
 (callsIn_wide (n:=n)).2 h
section
variable{P:Program}{r:Option Nat}{n:Nat}{o:Oper}{a:Act}{w:World}{R:Act->World->Prop}{Q:Exit->Act->World->Prop}
theorem put_defers(a:Act)(dst:Option Nat)(v:Value):(a.put dst v).defers=a.defers:=by cases dst<;>rfl
theorem o8(zf:∀c,o.op ≠ .defer c){v:Value}{w':World}(h:(execOp a.eval o).run P w=.ok (.value v) w')(hR:R (a.put o.dst v) w'):o.wpIn (FR r) n P a w (λa' w'=>a'.defers=a.defers/\R a' w') Q:=by
 refine⟨λ_ _=>trivial,?_⟩;rw[Oper.semAt_eq _ _ _ zf,h,Oper.uponIn_value];exact⟨put_defers _ _ _,hR⟩
theorem IV(zf:∀c,o.op ≠ .defer c){w':World}(h:(execOp a.eval o).run P w=.ok .skip w')(hR:R (a.put o.dst undef) w'):o.wpIn (FR r) n P a w (λa' w'=>a'.defers=a.defers/\R a' w') Q:=by
 refine⟨λ_ _=>trivial,?_⟩;rw[Oper.semAt_eq _ _ _ zf,h,Oper.uponIn_skip];exact⟨put_defers _ _ _,hR⟩
theorem qO(zf:∀c,o.op ≠ .defer c){f:FuncId}{args:Array Value}{w':World}(h:(execOp a.eval o).run P w = .ok (.enter f args) w')
    (hR:Calls P f args w' λe zL=>∃v,e=.returned v/\R (a.put o.dst v) zL):o.wpIn (FR r) n P a w (λa' w'=>a'.defers=a.defers/\R a' w') Q:=by
  refine⟨λ_ _=>trivial,?_⟩;rw[Oper.semAt_eq _ _ _ zf,h,Oper.uponIn_enter];refine⟨λh=>by simp[FR]at h,(JX hR).mono ?_⟩;rintro e zL ⟨v,rfl,hv⟩;exact⟨put_defers _ _ _,hv⟩
end
section
variable{P:Program}{nt B:Nat}{w0:World}{h0:Fz}{g:Gh}{σ:St}{a:Act}{w:World}
theorem zdy{v:Value}:qM g (OW v) v:=by
 unfold OW;split;split;rename_i l hl;exact⟨_,rfl,kG _ _ hl⟩;trivial;split;rename_i x hx;exact JU hx;trivial
theorem bW.ev(S:bW P nt B w0 h0 g σ a w)(x:Operand):qM g (fK σ.env x) (a.eval x):=by
 cases x with
 | tmp t =>
  simp only[fK];split;rename_i d hd;exact S.env t d hd;trivial
 | const v=>exact zdy
 | global k=>trivial
 | func f=>exact Rep.fn f [] [] [] [] rfl rfl (λj x v h=>by simp at h) (λj x v h=>by simp at h)
theorem vV:∀{l:List Value}{cs:List Cl},jo l=some cs→cs.flatMap bu=[]
  | [],cs,h=>by simp[jo]at h;rw[h];rfl
  | v::r,cs,h=>by
    simp only[jo]at h;split at h;rename_i x l hx hl;simp only[bQ]at h;rw[<- h];simp[bu,vV hl];cases h
theorem zdz{v:Value}:cu (OW v)=[]:=by
 unfold OW;split;split;rename_i l hl;exact vV hl;rfl;split;rfl;rfl
theorem bW.evLab(S:bW P nt B w0 h0 g σ a w)(x:Operand):∀L∈cu (fK σ.env x),∃o,lk σ.aB L=some o:=by
 cases x with
 | tmp t =>
  simp only[fK];split;rename_i d hd;exact S.clE t d hd;intro L hL;simp[cu,dC,bu]at hL
 | const v=>intro L hL;rw[show fK σ.env (.const v)=OW v from rfl,zdz]at hL;simp at hL
 | global k=>intro L hL;simp[fK,DV.junk,cu,dC,bu]at hL
 | func f=>intro L hL;simp[fK,cu,dC,bu]at hL
theorem dN{r:Option Nat}{n i:Nat}{o:Oper}{Q:Exit→Act→World→Prop}(S:bW P nt B w0 h0 g σ a w)(hd:dI nt o.dst=true)(zf:∀c,o.op ≠ .defer c)
    {d:DV} {v:Value} {fp:List (Nat×Bool)} {A:aJ} (hA:nP A i o.dst σ (σ.upd i o.dst fp d [] []))
    (h:(execOp a.eval o).run P w=.ok (.value v) w) (hv:qM g d v) (hl:∀L∈cu d,∃o,lk σ.aB L=some o) :
    o.wpIn (FR r) n P a w (λa' w'=>a'.defers=a.defers/\∃g' σ',nP A i o.dst σ σ'/\bW P nt B w0 h0 g' σ' a' w') Q :=
  o8 zf h ⟨g,_,hA,by rw[fO];exact S.put hd hv hl _⟩
theorem kD(v:PV):∀L∈cu (.p v),∃o,lk σ.aB L=some o:=λL hL=>by simp[cu,dC,bu]at hL
theorem JY{t:TypeId}{ag:Bool}{m b off:Nat}{C:Array Value}{ty:TypeId}{fr:Nat×Nat}{cells:List Cl}{d:D1}(hg:jq P t=some ag)(hs:pU P t=some m)
    (hb:w.heap[b]? = some (.cells C ty fr)) (o:Nat) (hc:∀(j:Nat)(x:Cl),cells[j]? = some x->∃v,C[o+j]? = some v/\ja g x v) (hr:nI ag m cells off=some d) :
    ∃v,(loadVar t ⟨b,o+off,none⟩).run P w=.ok v w/\Ai g d v:=by
  cases ag with
  | true =>
    simp only[nI]at hr;split at hr;rename_i hlen;have hlen:=kP hlen;simp only[bQ]at hr;subst hr;let l:=(cells.drop off).take m;have hll:l.length=m:=hlen;have key:∀(j:Nat)(x:Cl),l[j]? = some x->∃v,C[o+off+j]? = some v/\ja g x v:=by
      intro j x hj;have oV:cells[off+j]? = some x:=by
        have hjm:j<m:=by have:=(AL.1 hj).1;omega
        simp only[l,IL,eX hjm,qdg]at hj;exact hj
      obtain⟨v,hv,hx⟩:=hc (off+j) x oV;exact⟨v,by rw[qjq];exact hv,hx⟩
    let vs:=(List.range m).map λj=>C.getD (o+off+j) undef;have hvl:vs.length=m:=by simp[vs]
    have hvj:∀j,j<m->vs[j]? = some (C.getD (o+off+j) undef):=λj hj=>by simp[vs,hj]
    refine⟨.agg vs.toArray,Iu hg hs hb vs hvl ?_,vs,rfl,?_⟩;intro j v hj;have hjm:j<m:=by have:=(AL.1 hj).1;omega
    rw[hvj j hjm]at hj;simp only[bQ]at hj;obtain⟨u,hu,_⟩:=key j (l[j]'omY) (by simp[hll,hjm]);rw[<- hj,hu,xI,hu];rfl;refine RL.of_get (by rw [hvl];exact hll) ?_;intro j x v hx hv;obtain⟨u,hu,X7⟩:=key j x hx;have hjm:j<m:=by have:=(AL.1 hv).1;omega
    rw[hvj j hjm,xI,hu]at hv;simp at hv;rw[<- hv];exact X7;cases hr
  | false =>
    simp only[nI]at hr;split at hr;rename_i x hx;simp only[bQ]at hr;subst hr;obtain⟨v,hv,xH⟩:=hc off x hx;exact⟨v,xy hg hb v hv,xH⟩;cases hr
theorem JZ{ag:Bool}{m off:Nat}{cells:List Cl}{d:D1}(hr:nI ag m cells off=some d):∀L∈dC d,L∈cells.flatMap bu:=by
 cases ag with
 | true =>
  simp only[nI]at hr;split at hr;simp only [bQ]at hr;subst hr;intro L hL;simp only[dC,lD]at hL ⊢;obtain⟨c,hc,hL⟩:=hL;exact⟨c,jqH (jqI hc),hL⟩;cases hr
 | false =>
  simp only[nI]at hr;split at hr;rename_i x hx;simp only[bQ]at hr;subst hr;intro L hL;simp only[dC]at hL;exact lD.2 ⟨x,Jr hx,hL⟩;cases hr
theorem nR(cells:List PV):(cells.map Cl.p).flatMap bu=[]:=by
 induction cells with|nil=>rfl|cons c r ih=>simp[bu,ih]
theorem QO{h:Fz}{cells:List PV}{off:Nat}{v:Value}(r:Rep h (.fp cells off) v):∃b o C ty fr,v=.pointer (some ⟨b,o+off,none⟩)/\h b=some (.fz (.cells C ty fr)) /\
  ∀(j:Nat)(x:PV),cells[j]? = some x->∃v,C[o+j]? = some v/\Rep h x v:=by
 cases r with|fp _ _ b o C ty fr vs hb hc hr=>exact⟨b,o,C,ty,fr,rfl,hb,λj x hj=>⟨vs j,hc j x hj,hr j x hj⟩⟩
theorem uK{B L e s b len:Nat}{get:Nat→List PV}(hv:Cj P g w B L e s b len get){i:Nat}(hi:i<len) :
  ∃k C,(g.sv L).ownBlock=some k/\(∃cap,g.sv L=.slice (some ⟨k,0,none⟩) len cap)/\w.heap[k]? = some (.cells C e (0,0))/\i*s+s<=C.size/\(get i).length=s /\
   ∀(j:Nat)(x:PV),(get i)[j]? = some x->∃v,C[i*s+j]? = some v/\Rep g.h x v:=by
 obtain⟨hs,_,xs,hx,hr⟩:=hv;rcases hx.2 with⟨_,rfl⟩|⟨k,cap,cur,h1,hB,hg,hn,ku,jH,htk⟩
 exact absurd hi omY;have hle:i*s+s≤len*s:=by have:=Qz s (qdl hi);rw [Uf]at this;exact this
 have zs9:len*s<=cap*s:=Qz s hn;have hlen:(get i).length=s:=by
  rw[(hr i hi).length];simp only[qdF,qdd,hx.1];omega
 refine⟨k,cur,by rw[h1];rfl,⟨cap,h1⟩,hg,omY,hlen,?_⟩;intro j x hj;obtain⟨v,hv,xH⟩:=(hr i hi).get j x hj;refine⟨v,?_,xH⟩;have hjs:j<s:=by have:=(AL.1 hj).1;rw[hlen]at this;exact this
 rw[IL,eX hjs,qdg,<- htk,IL]at hv;split at hv;simpa using hv;cases hv
theorem UT{B L te bb e s b n:Nat}{ln:Nat→Nat}{get:Nat→Nat→List PV}(hv:vvR P g w B L te bb e s b n ln get){i:Nat}(hi:i<n) :
  ∃k C cap,g.sv L=.slice (some ⟨k,0,none⟩) n cap/\w.heap[k]? = some (.cells C te (0,0))/\C[i]? = some (g.iv L i)/\(g.iv L i).oneCell'=true:=by
 obtain⟨_,_,_,h4,h5,_⟩:=hv;rcases h4.2 with⟨h1,h2⟩|⟨k,cap,cur,h1,hB,hg,hn,ku,jH,htk⟩
 omega;refine⟨k,cur,cap,h1,hg,?_,(h5 i hi).1⟩;have:(cur.toList.take (n*1))[i]? = ((List.range n).map (g.iv L))[i]?:=by rw[htk]
 rw[IL,eX omY]at this;simpa [hi]using this
theorem UU{B L te bb e s b n o:Nat}{ln:Nat→Nat}{get:Nat→Nat→List PV}(hv:vtR P g w B L te bb e s b n ln get o){i:Nat}(hi:i<n) :
  ∃k C cap,g.sv L=.slice (some ⟨k,0,none⟩) n cap/\w.heap[k]? = some (.cells C te (0,0))/\C[i]? = some (g.iv L i):=by
 obtain⟨_,_,_,h4,_⟩:=hv;rcases h4.2 with⟨h1,h2⟩|⟨k,cap,cur,h1,hB,hg,hn,ku,jH,htk⟩
 omega;refine⟨k,cur,cap,h1,hg,?_⟩;have:(cur.toList.take (n*1))[i]? = ((List.range n).map (g.iv L))[i]?:=by rw[htk]
 rw[IL,eX omY]at this;simpa [hi]using this
theorem QP{h:Fz}{len s:Nat}{get:Nat→List PV}{v:Value}(r:Rep h (.sl len s get) v){i:Nat}(hi:i<len) :
  ∃b o cap C ty fr,v=.slice (some ⟨b,o,none⟩) len cap/\h b=some (.fz (.cells C ty fr))/\(get i).length=s /\
   ∀(j:Nat)(x:PV),(get i)[j]? = some x->∃v,C[o+i*s+j]? = some v/\Rep h x v:=by
 cases r with|sl0=>exact absurd hi omY|sle=>exact absurd hi omY|sl _ _ _ _ b o cap C ty fr vs hb ku hlen hc hr=>exact⟨b,o,cap,C,ty,fr,rfl,hb,hlen i hi,λj x hj=>⟨vs i j,hc i j x hi hj,hr i j x hi hj⟩⟩
theorem IW{h:Fz}{b o:Nat}{C:Array Value}{ty:TypeId}{fr:Nat×Nat}{l:List PV}(hb:h b=some (.fz (.cells C ty fr)))
    (hr:∀(j:Nat)(x:PV),l[j]? = some x->∃v,C[o+j]? = some v/\Rep h x v) (off:Nat):Rep h (.fp l off) (.pointer (some ⟨b,o+off,none⟩)) :=
  Rep.fp l off b o C ty fr (fun j => C.getD (o + j) undef) hb
    (λj x hj=>by obtain⟨v,hv,_⟩:=hr j x hj;rw[xI,hv];rfl)
    (λj x hj=>by obtain⟨v,hv,hx⟩:=hr j x hj;simpa [xI,hv]using hx)
end
end Go.Pm
namespace Go.Pm
variable [aH]
open Go.RowKit (Below)
section
variable{P:Program}{Γ:bI}{nt B:Nat}{w0:World}{h0:Fz}{g:Gh}{σ:St}{a:Act}{w:World}{r:Option Nat}{n i:Nat}{Q:Exit->Act->World->Prop}
def jf(P:Program)(nt B:Nat)(w0:World)(h0:Fz)(r:Option Nat)(n i:Nat)(o:Oper)(A:aJ)(σ:St)(a:Act)(w:World)(Q:Exit->Act->World->Prop):Prop :=
 o.wpIn (FR r) n P a w (λa' w'=>a'.defers=a.defers/\∃g' σ',nP A i o.dst σ σ'/\bW P nt B w0 h0 g' σ' a' w') Q
theorem iJ{x:Operand}{c:Cl}(S:bW P nt B w0 h0 g σ a w)(h:fK σ.env x=.one (.c c)):ja g c (a.eval x)/\∀L∈bu c,∃o,lk σ.aB L=some o:=by
 have h1:=S.ev x;have h2:=S.evLab x;rw[h]at h1 h2;exact⟨h1,h2⟩
theorem jv{x:Operand}{v:PV}(S:bW P nt B w0 h0 g σ a w)(h:fK σ.env x=.one (.c (.p v))):Rep g.h v (a.eval x):=(iJ S h).1
theorem jW{x:Operand}{k:IntKind}{m:Int}(S:bW P nt B w0 h0 g σ a w)(h:fK σ.env x=.one (.c (.p (.int k m)))):a.eval x=.int k m:=by
 have:=jv S h;generalize a.eval x=v at this;cases this;rfl
theorem uM{x:Operand}{m:Bool}(S:bW P nt B w0 h0 g σ a w)(h:fK σ.env x=.one (.c (.p (.bool m)))):a.eval x=.bool m:=by
 have:=jv S h;generalize a.eval x=v at this;cases this;rfl
theorem UV{o:Oper}{x:Operand}(S:bW P nt B w0 h0 g σ a w)(hd:dI nt o.dst=true)(bf:o.op = .move x∨o.op = .assign x) :
  jf P nt B w0 h0 r n i o (.val [] (fK σ.env x) [] []) σ a w Q:=by
 refine dN S hd (by rcases bf with h|h<;>simp[h]) (d:=fK σ.env x) (v:=a.eval x) (fp:=[]) rfl ?_ (S.ev x) (S.evLab x);rcases bf with h|h<;>simp[execOp,h]
theorem UW{b:Bool}{x y:DV}{v u:Value}(h1:qM g x v)(h2:qM g y u):qM g (Ah b x y) (if b=true then v else u):=by
 unfold Ah;split;rename_i p q;have e1:v=.bool p:=by cases h1;rfl
 have e2:u=.bool q:=by cases h2;rfl
 subst e1 e2;cases b<;>exact Rep.bool _;cases b;simpa using h2;simpa using h1
theorem zdA{b:Bool}{x y:DV}:∀L∈cu (Ah b x y),L∈cu x\/L∈cu y:=by
 unfold Ah;split;intro L hL;simp[cu,dC,bu]at hL;intro L hL;cases b;exact .inr hL;exact .inl hL
theorem zgK{o:Oper}{c x y:Operand}(S:bW P nt B w0 h0 g σ a w)(hd:dI nt o.dst=true)(bf:o.op = .pick c x y){t:Bool}(hc:fK σ.env c = .one (.c (.p (.bool t)))) :
  jf P nt B w0 h0 r n i o (.val [] (Ah t (fK σ.env x) (fK σ.env y)) [] []) σ a w Q:=by
 have hb:=uM S hc;refine dN S hd (by simp[bf]) (d:=Ah t (fK σ.env x) (fK σ.env y)) (v:=if t=true then a.eval x else a.eval y) (fp:=[]) rfl ?_ (UW (S.ev x) (S.ev y)) ?_;simp[execOp,bf,asBool,hb];intro L hL;rcases zdA L hL with h|h
 exact S.evLab x L h;exact S.evLab y L h
theorem J3(e:TypeId)(v:Value):(newVar e v).run P w=.ok ⟨w.heap.size,0,none⟩ (w.alloc (.cells v.cells e)):=by
 simp[newVar,newRow]
theorem za5{o:Oper}{A:aJ}{e:Nat}{cs:List Cl}{v:Value}(S:bW P nt B w0 h0 g σ a w)(hd:dI nt o.dst=true)(zf:∀c,o.op ≠ .defer c)
    (hA:EU (lk σ.aB) o.dst (.box e cs) (λt=>.cl (.ptr t 0))=A) (hs:A.safe)
    (df:(execOp a.eval o).run P w=.ok (.value (.pointer (some ⟨w.heap.size,0,none⟩))) (w.alloc (.cells v.cells e)))
    (hv:RL (ja g) cs v.cells.toList) (hl:∀L∈cs.flatMap bu,∃o,lk σ.aB L=some o):jf P nt B w0 h0 r n i o A σ a w Q:=by
  unfold EU at hA;split at hA;rename_i t ht;split at hA;rename_i jZ;subst hA;have S':=S.newBox (ty:=e) jZ hv hl;refine o8 zf df ⟨g.setBk t w.heap.size,_,rfl,?_⟩;rw[fO];refine S'.put (σ:={σ with aB:=(t,AO.box e cs)::σ.aB}) hd (d:=.cl (.ptr t 0)) ?_ ?_ _;simp[qM,Ai,ja,Gh.setBk];intro L hL;simp[cu,dC,bu]at hL;subst hL;exact⟨_,by rw[aW,eX rfl]⟩;subst hA;exact hs.elim;subst hA;exact hs.elim
theorem UX{l:List Value}{cs:List Cl}(h:jo l=some cs)(L:Nat)(hL:L∈cs.flatMap bu):False:=by
 rw[vV h]at hL;simp at hL
theorem zdB{o:Oper}{A:aJ}{e:Nat}{z:List Cl}(S:bW P nt B w0 h0 g σ a w)(hd:dI nt o.dst=true)(bf:o.op = .alloc e)(hz:gK P e=some z)
    (hA:EU (lk σ.aB) o.dst (.box e z) (λt=>.cl (.ptr t 0))=A) (hs:A.safe):jf P nt B w0 h0 r n i o A σ a w Q:=by
  obtain⟨ii,v,hi,Gq,hl,_⟩:=lJ hz;refine za5 S hd (by simp[bf]) hA hs (v:=v) ?_ (kG _ _ hl) (λL hL=>(UX hl L hL).elim);simp only[execOp,bf,Instr.alloc,Sem.run_bind,kT hi Gq,Result.andThen_ok,J3,Sem.run_pure]
theorem zm6{o:Oper}{A:aJ}{e:Nat}{x:Operand}{d:D1}(S:bW P nt B w0 h0 g σ a w)(hd:dI nt o.dst=true)(bf:o.op = .box e x)(hx:fK σ.env x = .one d)
    (fP:d.cells.all BV=true) (hA:EU (lk σ.aB) o.dst (.box e d.cells) (λt=>.cl (.ptr t 0))=A) (hs:A.safe):jf P nt B w0 h0 r n i o A σ a w Q:=by
  have h1:=S.ev x;have h2:=S.evLab x;rw[hx]at h1 h2;refine za5 S hd (by simp[bf]) hA hs (v:=a.eval x) ?_ (uI h1 fP) ?_;simp only[execOp,bf,Instr.box,Sem.run_bind,J3,Result.andThen_ok,Sem.run_pure]
  · intro L hL;refine h2 L ?_;cases d with|c y=>simpa [D1.cells,cu,dC]using hL|agg cs=>simpa [D1.cells,cu,dC]using hL
theorem zdC{o:Oper}{t:Nat}{parts:Array (Nat×Operand)}{z l:List Cl}(S:bW P nt B w0 h0 g σ a w)(hd:dI nt o.dst=true)(bf:o.op = .build t parts)
    (hf:xY P t=true) (hz:gK P t=some z) (hb:iH P t (fK σ.env) z parts.toList=some l) (hl:∀L∈l.flatMap bu,∃o,lk σ.aB L=some o) :
    jf P nt B w0 h0 r n i o (.val [] (.one (.agg l)) [] []) σ a w Q:=by
  obtain⟨v,df,hv⟩:=run_build (P:=P) (w:=w) (g:=g) (ρ:=a.eval) (ev:=fK σ.env) (λx=>S.ev x) hf hz hb;refine dN S hd (by simp[bf]) (d:=.one (.agg l)) (v:=v) (fp:=[]) rfl ?_ hv hl;simp only[execOp,bf,Sem.run_bind,df,Result.andThen_ok,Sem.run_pure]
theorem za6{cs l:List Cl}(off:Nat):∀L∈(spl cs off l).flatMap bu,L∈cs.flatMap bu\/L∈l.flatMap bu:=by
 induction l generalizing cs off with
 | nil=>intro L hL;exact .inl hL
 | cons x l ih =>
  intro L hL;rw[spl]at hL;rcases ih (off+1) L hL with h|h
  simp only [lD]at h;obtain⟨c,hc,hL2⟩:=h;rcases qda hc with h|h
  exact .inl (lD.2 ⟨c,h,hL2⟩);subst h;exact .inr (by simp only[oD,dW];exact .inl hL2);exact .inr (by simp only[oD,dW];exact .inr h)
theorem J4{ev:Operand->DV}{t:TypeId}:∀(parts:List (Nat×Operand))(z l:List Cl),iH P t ev z parts=some l ->
  ∀L∈l.flatMap bu,L∈z.flatMap bu\/∃x∈parts,L∈cu (ev x.2)
 | [],z,l,h=>by simp[iH]at h;subst h;exact λL hL=>.inl hL
 | (i,o)::r,z,l,h=>by
  simp only[iH]at h;cases he:ev o with
  | tup ds=>simp[he]at h
  | one d =>
   simp only[he]at h;have step:∀off,iH P t ev (spl z off d.cells) r=some l->∀L∈l.flatMap bu,L∈z.flatMap bu\/∃x∈(i,o)::r,L∈cu (ev x.2):=by
    intro off hb L hL;rcases J4 r _ l hb L hL with h|⟨x,hx,hL⟩
    rcases za6 off L h with h|h
    exact .inl h
    ·refine .inr ⟨(i,o),kQ,?_⟩;simp only[he,cu];cases d with|c y=>simpa [D1.cells,dC]using h|agg cs=>simpa [D1.cells,dC]using h
    exact .inr ⟨x,jS _ hx,hL⟩
   split at h;split at h;split at h;split at h;exact step _ h;cases h;cases h;cases h;split at h;split at h;exact step _ h;cases h;cases h;cases h
theorem Pg{t:TypeId}{z:List Cl}(h:gK P t=some z):z.flatMap bu=[]:=by
 obtain⟨_,v,_,_,hl,_⟩:=lJ h;exact vV hl
theorem yw{o:Oper}{t:TypeId}{x:Operand}{A:aJ}{fp:List (Nat×Bool)}{ag:Bool}{m b off o':Nat}{C:Array Value}{ty:TypeId}{fr:Nat×Nat}{cells:List Cl}{d:D1}
    (S:bW P nt B w0 h0 g σ a w) (hd:dI nt o.dst=true) (bf:o.op=.load t x) (hA:nP A i o.dst σ (σ.upd i o.dst fp (.one d) [] [])) (hg:jq P t=some ag) (hs:pU P t=some m)
    (hx:a.eval x=.pointer (some ⟨b,o'+off,none⟩)) (hb:w.heap[b]? = some (.cells C ty fr))
    (hc:∀(j:Nat)(x:Cl),cells[j]? = some x->∃v,C[o'+j]? = some v/\ja g x v) (hr:nI ag m cells off=some d)
    (hl:∀L∈cells.flatMap bu,∃o,lk σ.aB L=some o):jf P nt B w0 h0 r n i o A σ a w Q:=by
  obtain⟨v,df,hv⟩:=JY hg hs hb o' hc hr;refine dN S hd (by simp[bf]) (d:=.one d) (v:=v) (fp:=fp) hA ?_ hv (λL hL=>hl L (JZ hr L hL));simp only[execOp,bf,Sem.run_bind,Instr.loadAt,hx,Instr.sureAddr,Sem.run_pure,Result.andThen_ok,df]
theorem zgL{o:Oper}{t:TypeId}{x:Operand}{A:aJ}(S:bW P nt B w0 h0 g σ a w)(hd:dI nt o.dst=true)(bf:o.op = .load t x)
    (hA:act P Γ o (fK σ.env) (lk σ.aB)=A) (hs:A.safe):jf P nt B w0 h0 r n i o A σ a w Q:=by
  simp only[act,aLd,bf]at hA;split at hA;rename_i ag m hg jH;split at hA;rename_i L off hx;have xW:=(iJ S hx).1;simp only[ja]at xW;split at hA;rename_i ty cells hL;obtain⟨C,hC,hr⟩:=S.obj L _ hL;split at hA;rename_i d hrd;subst hA;refine yw (o':=0) S hd bf rfl hg jH (by rw[xW,Oa]) hC (λj y hj=>?_) hrd (S.clO L _ hL);obtain⟨v,hv,Qs⟩:=hr.get j y hj;exact⟨v,by simpa using hv,Qs⟩;subst hA;exact hs.elim;rename_i cells hL;obtain⟨C,ty,fr,hC,hr⟩:=S.obj L _ hL;split at hA;rename_i d hrd;subst hA;refine yw (o':=0) S hd bf rfl hg jH (by rw[xW,Oa]) (S.hw.fz hC) (λj y hj=>?_) hrd (by rw[nR];intro L hL;simp at hL);simp only[dq4]at hj;obtain⟨p,hp,rfl⟩:=Ye.1 hj;obtain⟨v,hv,Qs⟩:=hr.get j p hp;exact⟨v,by simpa using hv,Qs⟩;subst hA;exact hs.elim;subst hA;exact hs.elim;rename_i cells off hx;obtain⟨b,o',C,ty,fr,hv,hb,hc⟩:=QO (jv S hx);split at hA;rename_i d hrd;subst hA;refine yw S hd bf rfl hg jH hv (S.hw.fz hb) (λj y hj=>?_) hrd (by rw[nR];intro L hL;simp at hL);simp only[dq4]at hj;obtain⟨p,hp,rfl⟩:=Ye.1 hj;exact hc j p hp;subst hA;exact hs.elim;rename_i L s ii k hx;obtain⟨b,hb,xW⟩:=(iJ S hx).1;split at hA;rename_i e s' OL len get hL;split at hA;rename_i d OJ hrd;subst hA;have iw:ii<len:=hs;have OJ:=kP OJ;subst OJ;obtain⟨b',C,cO,_,hC,_,hlen,Gt⟩:=uK (S.obj L _ hL) iw;rw[hb]at cO;simp only[bQ]at cO;subst cO;refine yw (o':=ii*s) S hd bf (A:=.chk _ _ _ _ _) rfl hg jH xW hC (λj y hj=>?_) hrd (by rw[nR];intro L hL;simp at hL);simp only[dq4]at hj;obtain⟨p,hp,rfl⟩:=Ye.1 hj;exact Gt j p hp;subst hA;exact hs.elim;rename_i s' len get hL;split at hA;rename_i d OJ hrd;subst hA;have iw:ii<len:=hs;have OJ:=kP OJ;subst OJ;obtain⟨b',o',cap,C,ty,fr,lW,hC,hlen,Gt⟩:=QP (S.obj L _ hL).1 iw;have h00:o'=0:=(S.obj L _ hL).2 _ _ _ lW;rw[lW]at hb;simp only[Value.ownBlock,bQ]at hb;subst hb;subst h00;refine yw (o':=ii*s) S hd bf (A:=.chk _ _ _ _ _) rfl hg jH xW (S.hw.fz hC) (λj y hj=>?_) hrd (by rw[nR];intro L hL;simp at hL);simp only[dq4]at hj;obtain⟨p,hp,rfl⟩:=Ye.1 hj;have:=Gt j p hp;rwa[Oa]at this;subst hA;exact hs.elim;split at hA;rename_i OJ;simp only[gz]at OJ;have hs1:=kP OJ.1;have hk0:=kP OJ.2;subst hs1 hk0;split at hA;rename_i dst Gp;split at hA;rename_i te bb e s' b2 len ln get gV hL;subst hA;have iw:ii<len:=hs;obtain⟨b',C,cap,lW,hC,nG,lM⟩:=UT (S.obj L _ hL) iw;rw[lW]at hb;simp only[Value.ownBlock,bQ]at hb;subst hb;have jb:L≠dst:=by rintro rfl;rw[gV]at hL;cases hL
  obtain⟨iF,hi1,hi2,zl0,Gt,IK⟩:=S.obj L _ hL;obtain⟨r1,_,xs,r3,r4⟩:=Gt ii iw
  have S1 := S.write (o' := .vt te bb e s' b2 len ln get ii) hL (fun k hk => hk.imp id fun ⟨i, h1, _, h2⟩ => ⟨i, h1, h2⟩) (.refl _ _) (fun _ _ => rfl)
    ⟨iF,hi1,hi2,zl0,r1,(λk (hk:g.iv L ii=.map (some k))=>by rcases r3.2 with⟨h1,_⟩|⟨_,_,_,h1,_⟩<;>rw[h1]at hk<;>cases hk),λi hi _=>Gt i hi,λi k hi _ hk=>⟨(IK i k hi hk).1,λj hj _ jD=>(IK i k hi hk).2 j hj jD⟩⟩ (λM hM=>by simp[dU]at hM)
  have S2:=S1.adopt (t:=dst) (e:=e) (s:=s') (b:=b2) (n:=ln ii) (get:=get ii) (v:=g.iv L ii) (by rw[aW,fF jb];exact gV) (λk hk=>by
    have fP:=S.own L _ k hL (.inr ⟨ii,iw,hk⟩);refine⟨fP.1,fP.2,λX o ho hX=>?_⟩;rw[aW]at ho;split at ho;rename_i e1;simp only[bQ]at ho;subst ho e1;rcases hX with hX|⟨i,h1,h2,h3⟩
    exact(IK ii k iw hk).1 hX;exact h2 ((IK ii k iw hk).2 i h1 h3).symm;rename_i e1;exact e1 (S.sep L _ k X o hL ho (.inr ⟨ii,iw,hk⟩) hX))
    ⟨⟨λk l=>iF.1 ii k ii l,iF.2⟩,hi2,xs,by simpa [Gh.setSv]using r3,r4⟩
  refine o8 (by simp[bf]) (v:=g.iv L ii) (w':=w) ?_ ⟨g.setSv dst (g.iv L ii),_,rfl,?_⟩;have:=xy (P:=P) (o:=ii*1+0) hg hC (g.iv L ii) (by simpa using nG);simp only[execOp,bf,Sem.run_bind,Instr.loadAt,xW,Instr.sureAddr,Sem.run_pure,Result.andThen_ok,this];rw [fO];exact S2.put hd (d:=.cl (.vec dst)) ⟨by simp[Gh.setSv],r1⟩ (λM hM=>by simp[cu,dC,bu]at hM;subst hM;exact⟨_,by rw[aW,eX rfl]⟩) _;subst hA;exact hs.elim;subst hA;exact hs.elim;subst hA;exact hs.elim;subst hA;exact hs.elim;subst hA;exact hs.elim;subst hA;exact hs.elim
end
end Go.Pm
namespace Go.Pm
variable [aH]
open Go.RowKit (Below)
open Go.MapKept (IsKey findNow_spec run_checkKey)
section
variable{P:Program}{Γ:bI}{nt B:Nat}{w0:World}{h0:Fz}{g:Gh}{σ:St}{a:Act}{w:World}{r:Option Nat}{n i:Nat}{Q:Exit->Act->World->Prop}
theorem CE{t:TypeId}{ag:Bool}{m off:Nat}{cells:List Cl}{vs:List Value}{d:D1}(hg:jq P t=some ag)(hs:pU P t=some m)(hr:nI ag m cells off=some d)(hc:RL (ja g) cells vs) :
  ∃v,(part t vs.toArray off).run P w=.ok v w/\Ai g d v:=by
 cases ag with
 | true =>
  simp only[nI]at hr;split at hr;simp only [bQ]at hr;subst hr;refine⟨.agg (vs.toArray.extract off (off+m)),?_,(vs.drop off).take m,?_,(hc.drop off).take m⟩;simp only[part,Sem.run_bind,nO hg,Result.andThen_ok,OV,run_sizeOf hs,Sem.run_pure];simp[jqJ,jqj];cases hr
 | false =>
  simp only[nI]at hr;split at hr;rename_i x hx;simp only[bQ]at hr;subst hr;obtain⟨v,hv,xH⟩:=hc.get off x hx;refine⟨v,?_,xH⟩;simp only[part,Sem.run_bind,nO hg,Result.andThen_ok,qds,qd4];rw[show vs.toArray[off]? = some v by simpa using hv];simp;cases hr
theorem za7:∀(d:Nat)(t:TypeId)(x y:D1)(r:Bool),eqT P d t x y=some r→∀(e:Nat)(v u:Value),Ai g x v→Ai g y u→(Op.equalIn (d+e) t v u).run P w = .ok r w
  | 0,t,x,y,r,h=>by simp[eqT]at h
  | d+1,t,x,y,r,h=>by
    intro e v u hv hu;have he:d+1+e=(d+e)+1:=by omega
    rw[he];simp only[eqT]at h;split at h;rename_i hut;split at h;simp only [bQ]at h;subst h;cases hv;cases hu;exact run_equalIn_bool' w _ _ _ _ hut;cases h;rename_i q hut;split at h;split at h;rename_i hk;simp only[bQ]at h;subst h;subst hk;cases hv;cases hu;exact run_equalIn_int w _ _ _ _ _ _ hut;cases h;cases h
    · rename_i fs hut;split at h
      · rename_i xs ys Ih;obtain⟨vs,rfl,jE⟩:=hv;obtain⟨us,rfl,NQ⟩:=hu;have hf:P.fieldsOf t=fs:=by simp[Program.fieldsOf,hut]
        rw[run_equalIn_struct w (d+e) t _ _ (by rw[hf];exact hut) Ih,hf];have key:∀(l:List Field)(r:Bool),l.foldr (λf acc =>
            match acc, f.name != "_", jq P f.type, pU P f.type with
            | some r,true,some ag,some n=>match nI ag n xs f.offset,nI ag n ys f.offset with
              | some a,some b=>match eqT P d f.type a b with
                | some e=>some (match e with|true=>r|false=>false)
                | none=>none
              | _,_=>none
            | _,_,_,_=>none) (some true)=some r->(Op.eqFields (d+e) vs.toArray us.toArray l).run P w=.ok r w:=by
          intro l
          induction l with
          | nil=>intro r h;simp only[List.foldr_nil,bQ]at h;subst h;simp[Op.eqFields]
          | cons f l ih =>
            intro r h;rw[List.foldr_cons]at h;split at h
            · rename_i r' ag m zZr zLR uw jH;split at h
              · rename_i a' b' ha' mW;split at h
                · rename_i e' he';simp only[bQ] at h;obtain⟨va,hva,hra⟩:=CE (w:=w) uw jH ha' jE;obtain⟨vb,hvb,hrb⟩:=CE (w:=w) uw jH mW NQ;have hq:=za7 d f.type a' b' e' he' e va vb hra hrb
                  have hn : f.name ≠ "_" := by simpa using zLR
                  simp only[Op.eqFields,eX hn,Sem.run_bind,hva,hvb,hq,Result.andThen_ok];cases e' with|true=>simp only at h;subst h;simpa using ih r' zZr|false=>simp only at h;subst h;simp
                cases h
              cases h
            cases h
        exact key fs.toList r h
      cases h
    cases h
theorem zwJ{o:Oper}{op:BinOp}{t t':TypeId}{x y:Operand}{cs ds:List Cl}{A:aJ}(S:bW P nt B w0 h0 g σ a w)(hd:dI nt o.dst=true)(bf:o.op = .binOp op t x y t')
    (hx:fK σ.env x=.one (.agg cs)) (hy:fK σ.env y=.one (.agg ds)) (hA:zaW P op t cs ds=A) (hs:A.safe):jf P nt B w0 h0 r n i o A σ a w Q:=by
  have h1:=S.ev x;have h2:=S.ev y;rw[hx]at h1;rw[hy]at h2;obtain⟨vs,hv,_⟩:=id h1;obtain⟨us,hu,_⟩:=id h2;unfold zaW at hA;split at hA;rename_i q hgd hq;have df:=za7 (w:=w) 8 t (.agg cs) (.agg ds) q hq 9992 _ _ h1 h2;rw[hv,hu]at df;split at hA;subst hA;refine dN S hd (by simp[bf]) (d:=.bool q) (v:=.bool q) (fp:=[]) rfl ?_ (.bool q) (kD _);simp only[execOp,bf,hv,hu,Sem.run_bind,run_eqGuard_agg w _ _ _ _ _ _ hgd,Result.andThen_ok,run_eql_struct];rw[df];rfl;subst hA;refine dN S hd (by simp[bf]) (d:=.bool (!q)) (v:=.bool (!q)) (fp:=[]) rfl ?_ (.bool (!q)) (kD _);simp only[execOp,bf,hv,hu,Sem.run_bind,run_eqGuard_agg w _ _ _ _ _ _ hgd,Result.andThen_ok,run_neq_struct];rw[df];rfl;subst hA;exact hs.elim;subst hA;exact hs.elim
theorem zdD{o:Oper}{t:TypeId}{x y:Operand}{A:aJ}(S:bW P nt B w0 h0 g σ a w)(hd:dI nt o.dst=true)(bf:o.op = .index t x y)
    (hA:act P Γ o (fK σ.env) (lk σ.aB)=A) (hs:A.safe):jf P nt B w0 h0 r n i o A σ a w Q:=by
  simp only[act,bf,Jw]at hA;split at hA;rename_i m e hu;split at hA;rename_i sz ag cs k j jH uw hx hy;split at hA;rename_i d iw hr;subst hA;have h1:=S.ev x;rw[hx]at h1;obtain⟨vs,hv,jE⟩:=h1;have hj:=jW S hy;obtain⟨v,df,hdv⟩:=CE (w:=w) uw jH hr jE;have zto:j<m:=by simpa [qjb]using iw
  refine dN S hd (by simp[bf]) (d:=.one d) (v:=v) (fp:=[]) rfl ?_ hdv (λL hL=>?_);simp only [execOp,bf,hv,hj,Instr.index,asIntOf,Sem.run_bind,Sem.run_pure,Result.andThen_ok,run_underlying hu];rw[eX ⟨by simp,by simpa using zto⟩];simp only[Sem.run_bind,run_sizeOf jH,Result.andThen_ok];rw[show(Int.ofNat j).toNat=j from rfl,df];rfl;refine S.evLab x L ?_;rw[hx];exact JZ hr L hL;subst hA;exact hs.elim;subst hA;exact hs.elim;subst hA;exact hs.elim
theorem zdE{o:Oper}{t:TypeId}{x:Operand}{f:Nat}{A:aJ}(S:bW P nt B w0 h0 g σ a w)(hd:dI nt o.dst=true)(bf:o.op = .field t x f)
    (hA:act P Γ o (fK σ.env) (lk σ.aB)=A) (hs:A.safe):jf P nt B w0 h0 r n i o A σ a w Q:=by
  simp only[act,bf,Jy]at hA;split at hA;rename_i fs hu;split at hA;rename_i fd hfd;split at hA;rename_i m ag cs jH uw hx;split at hA;rename_i d hr;subst hA;have h1:=S.ev x;rw[hx]at h1;obtain⟨vs,hv,jE⟩:=h1;obtain⟨v,df,hdv⟩:=CE (w:=w) uw jH hr jE;refine dN S hd (by simp[bf]) (d:=.one d) (v:=v) (fp:=[]) rfl ?_ hdv (λL hL=>?_);simp only [execOp,bf,hv,Instr.field,asAgg,Sem.run_bind,Sem.run_pure,Result.andThen_ok,run_underlying hu,hfd];rw[df];rfl;refine S.evLab x L ?_;rw[hx];exact JZ hr L hL;subst hA;exact hs.elim;subst hA;exact hs.elim;subst hA;exact hs.elim;subst hA;exact hs.elim
theorem QQ{o:Oper}{t e:TypeId}{m:Nat}{x y:Operand}{A:aJ}(S:bW P nt B w0 h0 g σ a w)(hd:dI nt o.dst=true)(bf:o.op = .indexAddr t x y)(hu:P.underlying t=some (.array m e))
    (hA:BZ P m e (fK σ.env x) (fK σ.env y)=A) (hs:A.safe):jf P nt B w0 h0 r n i o A σ a w Q:=by
  unfold BZ at hA;split at hA;rename_i sz k j jH hy;split at hA;rename_i iw;have hj:=jW S hy;have zto:j<m:=by simpa [qjb]using iw
  have run:∀b o':Nat,a.eval x=.pointer (some ⟨b,o',none⟩)->(execOp a.eval o).run P w=.ok (.value (.pointer (some ⟨b,o'+j*sz,none⟩))) w:=by
    intro b o' hv;simp only[execOp,bf,hv,hj,Instr.indexAt,asIntOf,Sem.run_bind,Sem.run_pure,Result.andThen_ok,run_underlying hu,Instr.sureAddr];rw[eX ⟨by simp,by simpa using zto⟩];simp only[Sem.run_bind,run_sizeOf jH,Result.andThen_ok,addr_add,Sem.run_pure];rfl
  split at hA;rename_i L off hx;subst hA;obtain⟨h1,h2⟩:=iJ S hx;exact dN S hd (by simp[bf]) (d:=.cl (.ptr L (off+j*sz))) (fp:=[]) rfl (run _ _ h1) rfl h2;rename_i c off hx;subst hA;obtain⟨b,o',C,ty,fr,hv,hb,hc⟩:=QO (jv S hx);have:=run b (o'+off) hv;rw[qjq]at this;exact dN S hd (by simp[bf]) (d:=.p (.fp c (off+j*sz))) (fp:=[]) rfl this (IW hb hc _) (kD _);subst hA;exact hs.elim;subst hA;exact hs.elim;subst hA;exact hs.elim
theorem za8(j:Int):IsKey (.int .i64) (.int .i64 j):=by simp[IsKey]
theorem za9:∀{cs:List Cl}{l:List Int}{vs:List Value},Jv cs=some l→RL (ja g) cs vs→vs=l.map (Value.int .i64)
  | [],l,[],h,_=>by simp[Jv]at h;subst h;rfl
  | [],_,_::_,_,hr=>hr.elim
  | _::_,_,[],_,hr=>hr.elim
  | c::cs,l,v::vs,h,hr=>by
    cases c with
    | p x =>
      cases x with
      | int k a' =>
        cases k<;>simp only[Jv]at h<;>try cases h
        split at h;rename_i l' zK;simp only[bQ]at h;subst h;have h1:=hr.1;cases h1;rw[za9 zK hr.2];rfl;cases h
      | _=>simp[Jv]at h
    | _=>simp[Jv]at h
end
end Go.Pm
namespace Go.Pm
variable [aH]
open Go.RowKit (Below)
section
variable{P:Program}{Γ:bI}{nt B:Nat}{w0:World}{h0:Fz}{g:Gh}{σ:St}{a:Act}{w:World}{r:Option Nat}{n i:Nat}{Q:Exit->Act->World->Prop}
theorem QR{o:Oper}{x:Operand}{A:aJ}(S:bW P nt B w0 h0 g σ a w)(hd:dI nt o.dst=true)(bf:o.op = .nilCheck x)
    (hA:act P Γ o (fK σ.env) (lk σ.aB)=A) (hs:A.safe):jf P nt B w0 h0 r n i o A σ a w Q:=by
  simp only[act,aNc,bf]at hA;split at hA;rename_i L off hx;subst hA;obtain⟨h1,h2⟩:=iJ S hx;refine dN S hd (by simp[bf]) (v:=a.eval x) (fp:=[]) rfl ?_ h1 h2;simp only[ja]at h1;simp[execOp,bf,h1];rename_i c off hx;subst hA;obtain⟨h1,h2⟩:=iJ S hx;refine dN S hd (by simp[bf]) (v:=a.eval x) (fp:=[]) rfl ?_ h1 h2;obtain⟨b,o',C,ty,fr,hv,_⟩:=QO h1;simp[execOp,bf,hv];rename_i L s ii k hx;subst hA;obtain⟨h1,h2⟩:=iJ S hx;refine dN S hd (by simp[bf]) (v:=a.eval x) (fp:=[]) rfl ?_ h1 h2;obtain⟨b,_,hv⟩:=h1;simp[execOp,bf,hv];subst hA;exact hs.elim
theorem xA{op:BinOp}{t:TypeId}{x y:Operand}{k k':IntKind}{p q:Int}:(eqGuard op t x y (.int k p) (.int k' q)).run P w=.ok () w:=by
 unfold eqGuard;cases op<;>rfl
theorem uN{op:BinOp}{t:TypeId}{x y:Operand}{p q:Bool}:(eqGuard op t x y (.bool p) (.bool q)).run P w=.ok () w:=by
 unfold eqGuard;cases op<;>rfl
theorem zdF{o:Oper}{op:BinOp}{t t':TypeId}{x y:Operand}{A:aJ}(S:bW P nt B w0 h0 g σ a w)(hd:dI nt o.dst=true)(bf:o.op = .binOp op t x y t')
    (hA:act P Γ o (fK σ.env) (lk σ.aB)=A) (hs:A.safe):jf P nt B w0 h0 r n i o A σ a w Q:=by
  simp only[act,aBn,bf]at hA;split at hA;rename_i k p k' q hx hy;have h1:=jW S hx;have h2:=jW S hy;split at hA;rename_i hk;subst hk;have fin:∀(v:PV)(u:Value)(A:aJ),nP A i o.dst σ (σ.upd i o.dst [] (.p v) [] [])->(binOp op t (.int k p) (.int k q)).run P w=.ok u w->Rep g.h v u->jf P nt B w0 h0 r n i o A σ a w Q:=by
    intro v u A hA df hr;refine dN S hd (by simp[bf]) (d:=.p v) (v:=u) (fp:=[]) hA ?_ hr (kD v);simp only[execOp,bf,h1,h2,Sem.run_bind,xA,Result.andThen_ok,df,Sem.run_pure]
  unfold Uz at hA;split at hA<;>subst hA;have hq:0≤q:=hs;exact fin _ _ (.chk _ _ _ _ _) rfl (by simp[binOp,Op.shift,jqn.2 hq,zmQ]) (.int _ _);have hq:0≤q:=hs;exact fin _ _ (.chk _ _ _ _ _) rfl (by simp[binOp,Op.shift,jqn.2 hq,Io]) (.int _ _);exact fin _ _ _ rfl (by simp[binOp,Op.intBits,zEY]) (.int _ _);exact fin _ _ _ rfl (by simp[binOp,Op.intBits,orW]) (.int _ _);exact fin _ _ _ rfl (by simp[binOp,Op.intBits,zEZ]) (.int _ _);exact fin _ _ _ rfl (by simp[binOp,Op.intBits,zaV]) (.int _ _);exact fin _ _ _ rfl (by simp[binOp,Op.intArith]) (.int _ _);exact fin _ _ _ rfl (by simp[binOp,Op.intArith]) (.int _ _);exact fin _ _ _ rfl (by simp[binOp,Op.intArith]) (.int _ _);have hq:q≠0:=hs;exact fin _ _ (.chk _ _ _ _ _) rfl (by simp[binOp,Op.intDiv,hq]) (.int _ _);have hq:q≠0:=hs;exact fin _ _ (.chk _ _ _ _ _) rfl (by simp[binOp,Op.intDiv,hq]) (.int _ _);exact fin _ _ _ rfl (by simp[binOp,Op.intCmp]) (.bool _);exact fin _ _ _ rfl (by simp[binOp,Op.intCmp]) (.bool _);exact fin _ _ _ rfl (by simp[binOp,Op.intCmp]) (.bool _);exact fin _ _ _ rfl (by simp[binOp,Op.intCmp]) (.bool _);exact fin _ _ _ rfl (by simp[binOp,Op.intCmp]) (.bool _);exact fin _ _ _ rfl (by simp[binOp,Op.intCmp]) (.bool _);have fin:∀(v:PV)(u:Value)(A:aJ),nP A i o.dst σ (σ.upd i o.dst [] (.p v) [] [])->(binOp op t (.int k p) (.int k' q)).run P w=.ok u w->Rep g.h v u->jf P nt B w0 h0 r n i o A σ a w Q:=by
    intro v u A hA df hr;refine dN S hd (by simp[bf]) (d:=.p v) (v:=u) (fp:=[]) hA ?_ hr (kD v);simp only[execOp,bf,h1,h2,Sem.run_bind,xA,Result.andThen_ok,df,Sem.run_pure]
  unfold zgw at hA;split at hA<;>subst hA;have hq:0≤q:=hs;exact fin _ _ (.chk _ _ _ _ _) rfl (by simp[binOp,Op.shift,jqn.2 hq,zmQ]) (.int _ _);have hq:0≤q:=hs;exact fin _ _ (.chk _ _ _ _ _) rfl (by simp[binOp,Op.shift,jqn.2 hq,Io]) (.int _ _);exact hs.elim;rename_i p q hx hy;have h1:=uM S hx;have h2:=uM S hy;have df:P.underlying t=some .bool->(Op.equal t (.bool p) (.bool q)).run P w=.ok (p==q) w:=by
    intro ht;unfold Op.equal;rw[show Op.maxDepth=9999+1 from rfl,Op.equalIn];simp only[Sem.run_bind,run_underlying ht,Result.andThen_ok,Sem.run_pure]
  split at hA<;>(try rename_i ht _)<;>subst hA;refine dN S hd (by simp [bf]) (d := .bool (p==q)) (v := .bool (p==q)) (fp:=[]) rfl ?_ (.bool _) (kD _);simp only[execOp,bf,h1,h2,Sem.run_bind,uN,Result.andThen_ok,binOp,df ‹_›,Sem.run_pure];refine dN S hd (by simp [bf]) (d := .bool (p != q)) (v := .bool (p != q)) (fp:=[]) rfl ?_ (.bool _) (kD _);simp only[execOp,bf,h1,h2,Sem.run_bind,uN,Result.andThen_ok,binOp,df ‹_›,Sem.run_pure];rfl;exact hs.elim;rename_i cs ds hx hy;exact zwJ S hd bf hx hy hA hs;subst hA;exact hs.elim
theorem zgM{o:Oper}{op:UnOp}{t:TypeId}{x:Operand}{A:aJ}(S:bW P nt B w0 h0 g σ a w)(hd:dI nt o.dst=true)(bf:o.op = .unOp op t x)
    (hA:act P Γ o (fK σ.env) (lk σ.aB)=A) (hs:A.safe):jf P nt B w0 h0 r n i o A σ a w Q:=by
  simp only[act,aUn,bf]at hA;split at hA;rename_i p hx;subst hA;have h1:=uM S hx;refine dN S hd (by simp[bf]) (d:=.bool (!p)) (v:=.bool (!p)) (fp:=[]) rfl ?_ (.bool _) (kD _);simp[execOp,bf,h1,Op.unary];rename_i k p hx;subst hA;have h1:=jW S hx;refine dN S hd (by simp[bf]) (d:=.p (.int k (k.wrap (0-p)))) (v:=.int k (k.wrap (0-p))) (fp:=[]) rfl ?_ (.int _ _) (kD _);simp only[execOp,bf,h1,Op.unary,Op.intArith,Sem.run_bind,Sem.run_pure,Result.andThen_ok];subst hA;exact hs.elim
theorem UY{o:Oper}{t1 t2:TypeId}{x:Operand}{A:aJ}(S:bW P nt B w0 h0 g σ a w)(hd:dI nt o.dst=true)(bf:o.op = .convert t1 t2 x)
    (hA:act P Γ o (fK σ.env) (lk σ.aB)=A) (hs:A.safe):jf P nt B w0 h0 r n i o A σ a w Q:=by
  simp only[act,aCv,bf]at hA;split at hA;rename_i u1 k k' m h1 h2 hx;subst hA;have hv:=jW S hx;refine dN S hd (by simp[bf]) (d:=.p (.int k (k.wrap m))) (v:=.int k (k.wrap m)) (fp:=[]) rfl ?_ (.int _ _) (kD _);simp only[execOp,bf,hv,convert,Sem.run_bind,run_underlying h1,run_underlying h2,Result.andThen_ok,Conv.intToInt,Sem.run_pure];subst hA;exact hs.elim
theorem Oh{o:Oper}{t:TypeId}{x:Operand}{f:Nat}{A:aJ}(S:bW P nt B w0 h0 g σ a w)(hd:dI nt o.dst=true)(bf:o.op = .fieldAddr t x f)
    (hA:act P Γ o (fK σ.env) (lk σ.aB)=A) (hs:A.safe):jf P nt B w0 h0 r n i o A σ a w Q:=by
  simp only[act,aFa,bf]at hA;split at hA;rename_i off zYT
  have fin:∀(b o':Nat)(c:Cl)(A:aJ),a.eval x=.pointer (some ⟨b,o',none⟩)->nP A i o.dst σ (σ.upd i o.dst [] (.cl c) [] [])->ja g c (.pointer (some ⟨b,o'+off,none⟩)) ->
      (∀L∈bu c,∃o,lk σ.aB L=some o)->jf P nt B w0 h0 r n i o A σ a w Q:=by
    intro b o' c A hv hA hc hl;refine dN S hd (by simp[bf]) (d:=.cl c) (v:=.pointer (some ⟨b,o'+off,none⟩)) (fp:=[]) hA ?_ hc hl;simp only[execOp,bf,Sem.run_bind,hv,UI zYT,Result.andThen_ok,Sem.run_pure]
  split at hA;rename_i L k hx;subst hA;obtain⟨h1,h2⟩:=iJ S hx;exact fin _ _ _ _ h1 rfl rfl h2;rename_i c k hx;subst hA;obtain⟨h1,h2⟩:=iJ S hx;obtain⟨b,o',C,ty,fr,hv,hb,hc⟩:=QO h1;refine fin b (o'+k) _ _ hv rfl ?_ h2;rw[qjq];exact IW hb hc (k+off);rename_i L s ii k hx;subst hA;obtain⟨h1,h2⟩:=iJ S hx;obtain⟨b,hb,hv⟩:=h1;refine fin b (ii*s+k) _ _ hv rfl ⟨b,hb,?_⟩ h2;rw[qjq];subst hA;exact hs.elim;subst hA;exact hs.elim
theorem Oi{o:Oper}{t:TypeId}{x y:Operand}{A:aJ}(S:bW P nt B w0 h0 g σ a w)(hd:dI nt o.dst=true)(bf:o.op = .indexAddr t x y)
    (hA:act P Γ o (fK σ.env) (lk σ.aB)=A) (hs:A.safe):jf P nt B w0 h0 r n i o A σ a w Q:=by
  simp only[act,aIa,bf]at hA;split at hA;rename_i e hu;split at hA;rename_i m k j jH hy;have hj:=jW S hy;split at hA;rename_i len s get hx;split at hA;rename_i hsm;subst hsm;subst hA;have rM:0<=j/\j<(len:Int):=hs;have iw:j.toNat<len:=by omega
  obtain⟨b,o',cap,C,ty,fr,hv,hb,hlen,Gt⟩:=QP (jv S hx) iw;refine dN S hd (by simp[bf]) (d:=.p (.fp (get j.toNat) 0)) (v:=.pointer (some ⟨b,o'+j.toNat*s,none⟩)) (fp:=[]) (A:=.chk _ _ _ _ _) rfl ?_ ?_ (kD _);simp only[execOp,bf,Sem.run_bind,hv,hj,run_indexAt_slice hu jH rM.1 rM.2,Result.andThen_ok,Sem.run_pure];exact IW hb Gt 0;subst hA;exact hs.elim;rename_i L hx;obtain⟨h1,h2⟩:=iJ S hx;split at hA;rename_i e' s OL len get hL;split at hA;rename_i hsm;subst hsm;subst hA;have rM:0<=j/\j<(len:Int):=hs;have iw:j.toNat<len:=by omega
  obtain⟨b,C,cO,⟨cap,lW⟩,hC,_,hlen,Gt⟩:=uK (S.obj L _ hL) iw;refine dN S hd (by simp[bf]) (d:=.cl (.vptr L s j.toNat 0)) (v:=.pointer (some ⟨b,0+j.toNat*s,none⟩)) (fp:=_) (A:=.chk _ _ _ _ _) rfl ?_ ?_ h2;simp only[execOp,bf,Sem.run_bind,h1.1,lW,hj,run_indexAt_slice hu jH rM.1 rM.2,Result.andThen_ok,Sem.run_pure];refine⟨b,cO,?_⟩;simp;subst hA;exact hs.elim;rename_i s len get hL;split at hA;rename_i hsm;subst hsm;subst hA;have rM:0<=j/\j<(len:Int):=hs;have iw:j.toNat<len:=by omega
  obtain⟨b,o',cap,C,ty,fr,hv,hb,hlen,Gt⟩:=QP (S.obj L _ hL).1 iw;refine dN S hd (by simp[bf]) (d:=.p (.fp (get j.toNat) 0)) (v:=.pointer (some ⟨b,o'+j.toNat*s,none⟩)) (fp:=_) (A:=.chk _ _ _ _ _) rfl ?_ ?_ (kD _);simp only[execOp,bf,Sem.run_bind,h1.1,hv,hj,run_indexAt_slice hu jH rM.1 rM.2,Result.andThen_ok,Sem.run_pure];exact IW hb Gt 0;subst hA;exact hs.elim;rename_i te bb e' s OL len ln get hL;split at hA;rename_i hsm;subst hsm;subst hA;have rM:0<=j/\j<(len:Int):=hs;have iw:j.toNat<len:=by omega
  obtain⟨b,C,cap,lW,hC,_,_⟩:=UT (S.obj L _ hL) iw;refine dN S hd (by simp[bf]) (d:=.cl (.vptr L 1 j.toNat 0)) (v:=.pointer (some ⟨b,0+j.toNat*1,none⟩)) (fp:=_) (A:=.chk _ _ _ _ _) rfl ?_ ?_ h2;simp only[execOp,bf,Sem.run_bind,h1.1,lW,hj,run_indexAt_slice hu jH rM.1 rM.2,Result.andThen_ok,Sem.run_pure];refine⟨b,by rw [lW];rfl,?_⟩;simp;subst hA;exact hs.elim;rename_i te bb e' s OL len ln get o2 hL;split at hA;rename_i hsm;subst hsm;subst hA;have rM:0<=j/\j<(len:Int):=hs;have iw:j.toNat<len:=by omega
  obtain⟨b,C,cap,lW,hC,_⟩:=UU (S.obj L _ hL) iw;refine dN S hd (by simp[bf]) (d:=.cl (.vptr L 1 j.toNat 0)) (v:=.pointer (some ⟨b,0+j.toNat*1,none⟩)) (fp:=_) (A:=.chk _ _ _ _ _) rfl ?_ ?_ h2;simp only[execOp,bf,Sem.run_bind,h1.1,lW,hj,run_indexAt_slice hu jH rM.1 rM.2,Result.andThen_ok,Sem.run_pure];refine⟨b,by rw [lW];rfl,?_⟩;simp;subst hA;exact hs.elim;subst hA;exact hs.elim;subst hA;exact hs.elim;subst hA;exact hs.elim;rename_i m e hu;exact QQ S hd bf hu hA hs;subst hA;exact hs.elim
theorem UZ{o:Oper}{x:Operand}{k:Nat}{A:aJ}(S:bW P nt B w0 h0 g σ a w)(hd:dI nt o.dst=true)(bf:o.op = .extract x k)
    (hA:act P Γ o (fK σ.env) (lk σ.aB)=A) (hs:A.safe):jf P nt B w0 h0 r n i o A σ a w Q:=by
  simp only[act,aEx,bf]at hA;split at hA;rename_i ds hx;have h1:=S.ev x;have h2:=S.evLab x;rw[hx]at h1 h2;obtain⟨vs,hv,hr⟩:=h1;split at hA;rename_i d fZ;subst hA;obtain⟨v,AC,hdv⟩:=hr.get k d fZ;refine dN S hd (by simp[bf]) (d:=.one d) (v:=v) (fp:=[]) rfl ?_ hdv (λL hL=>h2 L ?_);simp only [execOp,bf,Sem.run_bind,hv,Instr.extract];have:vs.toArray[k]? = some v:=by simpa using AC
  rw[this];simp;exact lD.2 ⟨d,Jr fZ,hL⟩;subst hA;exact hs.elim;subst hA;exact hs.elim
theorem fb{o:Oper}{b:Builtin}{args:Array Operand}{ts:Array TypeId}(bf:o.op = .call {callee := .builtin b,args,argTypes:=ts}){v:Value}{w':World}
    (h:(builtin b ts o.type (args.map fun | .const _=>true|_=>false) (args.map a.eval)).run P w=.ok (.value v) w'):(execOp a.eval o).run P w=.ok (.value v) w':=by
  simp only[execOp,bf,resolve,Sem.run_bind,Sem.run_pure,Result.andThen_ok,invoke];exact h
theorem zm7{o:Oper}{args:Array Operand}{ts:Array TypeId}{A:aJ}(S:bW P nt B w0 h0 g σ a w)(hd:dI nt o.dst=true)(bf:o.op = .call {callee := .builtin .len,args,argTypes:=ts})
    (hA:act P Γ o (fK σ.env) (lk σ.aB)=A) (hs:A.safe):jf P nt B w0 h0 r n i o A σ a w Q:=by
  simp only[act,aLn,bf]at hA;split at hA;rename_i x t gp hts;have ha:args = #[x]:=by rw[<- qdc (xs:=args),gp]
  have ht:ts = #[t]:=by rw[<- qdc (xs:=ts),hts]
  subst ha ht;split at hA;rename_i e hu;have fin:∀(m:Nat)(ad:Option Addr)(cap:Nat)(fp:List (Nat×Bool))(A:aJ),a.eval x=.slice ad m cap->nP A i o.dst σ (σ.upd i o.dst fp (.int m) [] [])->jf P nt B w0 h0 r n i o A σ a w Q:=by
    intro m ad cap fp A hv hA;refine dN S hd (by simp[bf]) (d:=.int m) (v:=.int .i64 m) (fp:=fp) hA (fb bf ?_) (.int _ _) (kD _);simp only[builtin,Sem.run_bind,Builtin.len_];simp[hv,run_underlying hu,goInt]
  split at hA
  · rename_i m s get hx;subst hA;have h1:=jv S hx;generalize hv:a.eval x=v at h1;cases h1 with|sl0=>exact fin 0 _ _ [] _ hv rfl|sle=>exact fin 0 _ _ [] _ hv rfl|sl=>exact fin m _ _ [] _ hv rfl
  rename_i hx;subst hA;have h1:=jv S hx;generalize hv:a.eval x=v at h1;cases h1;exact fin 0 _ _ [] _ hv rfl;rename_i L hx;obtain⟨h1,_⟩:=iJ S hx;split at hA;rename_i e' s b m get hL;subst hA;obtain⟨_,_,xs,hxs,_⟩:=S.obj L _ hL;rcases hxs.2 with⟨h5,h6⟩|⟨k,cap,cur,h5,_⟩
  subst h6;exact fin 0 _ _ _ _ (h1.1.trans h5) rfl;exact fin m _ _ _ _ (h1.1.trans h5) rfl
  · rename_i s m get hL;subst hA;have h2:=(S.obj L _ hL).1;generalize hv:g.sv L=v at h2;cases h2 with|sl0=>exact fin 0 _ _ _ _ (h1.1.trans hv) rfl|sle=>exact fin 0 _ _ _ _ (h1.1.trans hv) rfl|sl=>exact fin m _ _ _ _ (h1.1.trans hv) rfl
  rename_i te bb e' s b m ln get hL;subst hA;obtain⟨_,_,_,hxs,_,_⟩:=S.obj L _ hL;rcases hxs.2 with⟨h5,h6⟩|⟨k,cap,cur,h5,_⟩
  subst h6;exact fin 0 _ _ _ _ (h1.1.trans h5) rfl;exact fin m _ _ _ _ (h1.1.trans h5) rfl;subst hA;exact hs.elim;subst hA;exact hs.elim;rename_i kt vt hu
  have U0:∀(m:Nat)(b:Nat)(es:Array MapEntry)(clock:Nat)(q:MQ)(F:List Int->Option (List Int))(fp:List (Nat×Bool))(A:aJ),a.eval x=.map (some b)->w.heap[b]? = some (.map es clock)->moE q m F es clock ->
      nP A i o.dst σ (σ.upd i o.dst fp (.int m) [] [])->jf P nt B w0 h0 r n i o A σ a w Q:=by
    intro m b es clock q F fp A hv hh hm hA;obtain⟨en,hen⟩:=hm;have jH:es.size=m:=by
      have:=kz List.length hen.ents;simp only[qdO,qd7]at this;rw[this,hen.size]
    refine dN S hd (by simp[bf]) (d:=.int m) (v:=.int .i64 m) (fp:=fp) hA (fb bf ?_) (.int _ _) (kD _);simp only[builtin,Sem.run_bind,Builtin.len_];simp[hv,run_underlying hu,goInt,MapKept.run_getObj_map hh,jH]
  split at hA;rename_i L hx;obtain⟨h1,_⟩:=iJ S hx;split at hA;rename_i kt' vt' q m F hL;subst hA;obtain⟨es,clock,hh,_,hm⟩:=S.obj L _ hL;exact U0 m _ es clock q F _ _ h1 hh hm rfl;subst hA;exact hs.elim;subst hA;exact hs.elim;subst hA;exact hs.elim;subst hA;exact hs.elim
theorem J5{args:Array Operand}{ev:Operand->DV}{p q:DV}(h:args.toList.map ev=[p,q]):∃x y,args = #[x,y]/\ev x=p/\ev y=q:=by
 match hl:args.toList,h with
 | [x,y],h =>
  simp at h;exact⟨x,y,by rw[<- qdc (xs:=args),hl],h.1,h.2⟩
 | [],h=>simp at h
 | [_],h=>simp at h
 | _::_::_::_,h=>simp at h
theorem zm8{o:Oper}{args:Array Operand}{ts:Array TypeId}{A:aJ}(S:bW P nt B w0 h0 g σ a w)(hd:dI nt o.dst=true)(bf:o.op = .call {callee := .builtin .max,args,argTypes:=ts})
    (hA:act P Γ o (fK σ.env) (lk σ.aB)=A) (hs:A.safe):jf P nt B w0 h0 r n i o A σ a w Q:=by
  simp only[act,aMx,bf]at hA;split at hA;rename_i k p k' q gp;subst hA;obtain⟨x,y,rfl,hx,hy⟩:=J5 gp;have h1:=jW S hx;have h2:=jW S hy;refine dN S hd (by simp[bf]) (d:=.p (.int k (if q>p then q else p))) (v:=.int k (if q>p then q else p)) (fp:=[]) rfl (fb bf ?_) (.int _ _) (kD _);simp[builtin,Builtin.max_,h1,h2,Builtin.max2];subst hA;exact hs.elim
theorem zm9{o:Oper}{args:Array Operand}{ts:Array TypeId}{A:aJ}(S:bW P nt B w0 h0 g σ a w)(hd:dI nt o.dst=true)(bf:o.op = .call {callee := .builtin .min,args,argTypes:=ts})
    (hA:act P Γ o (fK σ.env) (lk σ.aB)=A) (hs:A.safe):jf P nt B w0 h0 r n i o A σ a w Q:=by
  simp only[act,aMi,bf]at hA;split at hA;rename_i k p k' q gp;subst hA;obtain⟨x,y,rfl,hx,hy⟩:=J5 gp;have h1:=jW S hx;have h2:=jW S hy;refine dN S hd (by simp[bf]) (d:=.p (.int k (if q<p then q else p))) (v:=.int k (if q<p then q else p)) (fp:=[]) rfl (fb bf ?_) (.int _ _) (kD _);simp[builtin,Builtin.min_,h1,h2,Builtin.min2];subst hA;exact hs.elim
end
end Go.Pm
namespace Go.Pm
variable [aH]
open Go.RowKit (Below)
section place
variable{P:Program}
def Ro{α:Type}(P:Program)(s:Sem α):Prop:=∀w a w',s.run P w=.ok a w'->w'.heap=w.heap
theorem bind_ok{α β:Type}{x:Sem α}{f:α->Sem β}{w w':World}{b:β}(h:(x >>= f).run P w=.ok b w'):∃a w1,x.run P w=.ok a w1/\(f a).run P w1=.ok b w':=by
 rw[Sem.run_bind]at h;cases hx:x.run P w with|ok a w1=>rw[hx]at h;exact⟨a,w1,rfl,h⟩|halt e w1=>rw[hx]at h;cases h
theorem Ro.bind{α β:Type}{x:Sem α}{f:α->Sem β}(hx:Ro P x)(hf:∀a,Ro P (f a)):Ro P (x >>= f):=by
 intro w b w' h;obtain⟨a,w1,h1,h2⟩:=bind_ok h;exact(hf a w1 b w' h2).trans (hx w a w1 h1)
theorem Ro.pure{α:Type}(a:α):Ro P (Pure.pure a:Sem α):=by
 intro w b w' h;simp at h;rw[h.2]
theorem Ro.halt{α:Type}(e:Halt):Ro P (.halt e:Sem α):=by
 intro w b w' h;simp at h
theorem Ro.ite{α:Type}{c:Prop}[Decidable c]{x y:Sem α}(hx:Ro P x)(hy:Ro P y):Ro P (if c then x else y):=by
 split;exact hx;exact hy
theorem Ro.load(a:Addr)(m:Mode):Ro P (Go.load a m):=by
 intro w b w' h;rw[run_load]at h;split at h;simp at h;rw[h.2];split at h;simp at h;rw[h.2];cases h
theorem Ro.loadCellsFrom(a:Addr):∀(n i:Nat)(acc:Array Value),Ro P (loadCellsFrom a i n acc)|0,_,acc=>Ro.pure acc|n+1,i,acc=>(Ro.load _ _).bind λv=>Ro.loadCellsFrom a n (i+1) (acc.push v)
theorem Ro.firstCells(s n:Nat)(v:Value):Ro P (Builtin.firstCells s n v):=by
 unfold Builtin.firstCells;split;exact Ro.loadCellsFrom _ _ _ _;exact Ro.pure _;exact Ro.pure _;exact Ro.halt _
theorem Ro.typeInfo(t:TypeId):Ro P (typeInfo t):=by
 intro w b w' h;simp only[Go.typeInfo,Sem.run_bind,run_program,Result.andThen_ok]at h;split at h;simp at h;rw[h.2];simp at h
theorem Ro.zeroValue(t:TypeId):Ro P (zeroValue t):=by
 refine(Ro.typeInfo t).bind λ_=>?_;split;exact Ro.pure _;exact Ro.halt _
theorem Ro.choose(q:Question):Ro P (Go.choose q):=by
 intro w b w' h;rw[run_choose]at h;split at h;simp at h;rw[h.2];simp at h;rw[<- h.2];rfl
theorem Ro.askRoom(m:Nat):Ro P (askRoom m):=by
 intro w b w' h;simp at h;rw[h]
theorem Ro.program:Ro P program:=by
 intro w b w' h;simp at h;rw[h.2]
theorem Ro.underlying(t:TypeId):Ro P (underlying t):=by
 refine Ro.program.bind λ_=>?_;split;exact Ro.pure _;exact Ro.halt _
theorem Ro.sizeOf(t:TypeId):Ro P (sizeOf t):=(Ro.typeInfo t).bind λ_=>Ro.pure _
theorem Ro.stuck{α:Type}(s:String):Ro P (stuck s:Sem α):=Ro.halt _
theorem Ro.unsupported{α:Type}(s:Unsupported):Ro P (unsupported s:Sem α):=Ro.halt _
theorem Ro.asIntOf(v:Value):Ro P (asIntOf v):=by
 unfold Go.asIntOf;split;exact Ro.pure _;exact Ro.unsupported _;exact Ro.stuck _
theorem Ro.asInt(v:Value):Ro P (asInt v):=(Ro.asIntOf v).bind λ_=>Ro.pure _
theorem Ro.error{α:Type}(m:String):Ro P (runtimePanic (.error m):Sem α):=by
 refine Ro.program.bind λ_=>?_;exact Ro.halt _
theorem Ro.mark(m:Mark):Ro P (mark m):=by
 intro w b w' h;simp at h;rw[h]
theorem Ro.shape(k:Nat):Ro P (shape k):=by
 intro w b w' h;simp at h;rw[h.2]
theorem Ro.frozen(k:Addr):Ro P (frozen k):=by
 intro w b w' h;simp at h;rw[h.2]
theorem Ro.holdsCells(k:Addr)(m:Nat):Ro P (Builtin.holdsCells k m):=by
 refine(Ro.shape _).bind λ_=>?_;split;exact Ro.pure _;exact Ro.pure _
theorem Ro.mayShare(size zCF m:Nat)(base:Option Addr)(x:Value):Ro P (Builtin.mayShare size zCF m base x):=by
 unfold Builtin.mayShare
 repeat' first
  | exact Ro.holdsCells _ _
  | exact Ro.frozen _
  | exact Ro.pure _
  | refine Ro.ite ?_ ?_
  | refine Ro.bind ?_ (λ_=>?_)
  | split
def PL(P:Program)(base:Option Nat)(s:Sem Value):Prop:=∀w a w',s.run P w=.ok a w'->a.ownBlock=base\/a.ownBlock=some w.heap.size
theorem PL.bind{α:Type}{base:Option Nat}{x:Sem α}{f:α->Sem Value}(hx:Ro P x)(hf:∀a,PL P base (f a)):PL P base (x >>= f):=by
 intro w b w' h;obtain⟨a,w1,h1,h2⟩:=bind_ok h;have:=hf a w1 b w' h2;rwa[hx w a w1 h1]at this
theorem PL.ite{base:Option Nat}{c:Prop}[Decidable c]{x y:Sem Value}(hx:PL P base x)(hy:PL P base y):PL P base (if c then x else y):=by
 split;exact hx;exact hy
theorem PL.halt{base:Option Nat}(e:Halt):PL P base (.halt e):=by
 intro w b w' h;simp at h
theorem PL.pure{base:Option Nat}{v:Value}(h:v.ownBlock=base):PL P base (Pure.pure v):=by
 intro w b w' h';simp at h';rw[<- h'.1];exact .inl h
theorem PL.then{α:Type}{base:Option Nat}{x:Sem α}{v:Value}(h:v.ownBlock=base):PL P base (x >>= λ_=>Pure.pure v):=by
 intro w b w' h';obtain⟨a,w1,_,h2⟩:=bind_ok h';simp at h2;rw[<- h2.1];exact .inl h
theorem PL.newRow{base:Option Nat}(e:TypeId)(C:Array Value)(m c:Nat):PL P base (newRow e C >>= λa=>Pure.pure (Value.slice (some a) m c)):=by
 intro w b w' h;simp[Go.newRow]at h;rw[<- h.1];exact .inr rfl
theorem CG{t ty:TypeId}{base ad:Option Addr}{zCF zYV m c:Nat}:PL P (base.map (·.block)) (Builtin.append_ #[t,t] ty #[.slice base zCF zYV,.slice ad m c]):=by
 unfold Builtin.append_;simp only[qjI,qdy,Yn]
 repeat' first
  | exact PL.newRow _ _ _ _
  | exact PL.pure (by first|rfl|(cases base<;>rfl))
  | exact PL.then (by first|rfl|(cases base<;>rfl))
  | exact PL.halt _
  | exact Ro.underlying _
  | exact Ro.sizeOf _
  | exact Ro.typeInfo _
  | exact Ro.zeroValue _
  | exact Ro.firstCells _ _ _
  | exact Ro.choose _
  | exact Ro.askRoom _
  | exact Ro.asInt _
  | exact Ro.error _
  | exact Ro.unsupported _
  | exact Ro.stuck _
  | exact Ro.pure _
  | exact Ro.mark _
  | exact Ro.mayShare _ _ _ _ _
  | refine PL.ite ?_ ?_
  | refine Ro.ite ?_ ?_
  | refine PL.bind ?_ (λ_=>?_)
  | refine Ro.bind ?_ (λ_=>?_)
  | split
theorem Iw{w:World}{at_:Addr}{u:TypeId}{k:Addr}{v:Value}{b:Bool}{r:World×List Addr}(h:w.viewStore P at_ u k v b=.ok r):r.1.drawn=w.drawn:=by
 unfold World.viewStore at h;simp only[bind,Except.bind,pure,Except.pure]at h
 repeat' first
  | (cases h;done)
  | (simp only[Except.ok.injEq]at h;rw[<- h];done)
  | split at h
theorem J6{w:World}{a:Addr}{v:Value}{b:Bool}{r:World×List Addr}(h:w.farStore P a v b=.ok r):r.1.drawn=w.drawn:=by
 unfold World.farStore at h;split at h;split at h;rename_i e;simp only[Except.ok.injEq]at h;rw[<- h];exact Iw e;cases h;cases h
theorem Fa{α:Type}:∀(q:Ask α)(w:World),w.drawn≤(w.ask q).2.drawn
  | .done a,w=>by simp[World.ask]
  | .ask zLL range k,w=>by
    simp only[World.ask];split;exact Fa _ _;exact Gv (Nat.le_succ w.drawn) (Fa (k _) {w with drawn:=w.drawn+1})
theorem zdG(w:World)(c:Sys):w.drawn<=(w.sys c).2.drawn:=by
 have h:=Fa (Kernel.perform c w.os) w;unfold World.sys;split;exact kw _;rename_i e;rw[e]at h;exact h
theorem gI{α:Type}:∀(s:Sem α)(w:World)(x:α)(w':World),s.run P w = .ok x w'→w.drawn≤w'.drawn
  | .pure a,w,x,w',h=>by simp only[Sem.run,Result.ok.injEq]at h;rw[h.2];exact kw _
  | .load m a k,w,x,w',h=>by
    simp only[Sem.run]at h;split at h;exact gI _ _ _ _ h;split at h;exact gI _ _ _ _ h;cases h
  | .store m a v k,w,x,w',h=>by
    have fin:∀w1,w1.drawn=w.drawn->k.run P w1=.ok x w'->w.drawn<=w'.drawn:=λw1 e h=>by rw[<- e];exact gI _ _ _ _ h
    cases v with
    | agg cs=>simp only[Sem.run]at h;cases h
    | tuple cs=>simp only[Sem.run]at h;cases h
    | _ =>
      simp only[Sem.run]at h;split at h;split at h;cases h;refine fin _ ?_ h;rfl;split at h;rename_i e;refine fin _ ?_ h;exact J6 e;cases h
  | .new o k,w,x,w',h=>by simp only[Sem.run]at h;have:=gI _ _ _ _ h;exact this
  | .shape r k,w,x,w',h=>by simp only[Sem.run]at h;exact gI _ _ _ _ h
  | .freeze a n k,w,x,w',h=>by
    simp only[Sem.run]at h;have:=gI _ _ _ _ h;have e:(w.freeze a n).drawn=w.drawn:=by unfold World.freeze;split<;>rfl
    rwa[e]at this
  | .frozen a k,w,x,w',h=>by simp only[Sem.run]at h;exact gI _ _ _ _ h
  | .getObj r k,w,x,w',h=>by
    simp only[Sem.run]at h;split at h;cases h;exact gI _ _ _ _ h;cases h
  | .setObj r o k,w,x,w',h=>by
    simp only[Sem.run]at h;split at h;cases h;have:=gI _ _ _ _ h;exact this;cases h
  | .choose q k,w,x,w',h=>by
    simp only[Sem.run]at h;split at h;exact gI _ _ _ _ h;have:=gI _ _ _ _ h;exact Gv (Nat.le_succ _) this
  | .sys c k,w,x,w',h=>by
    simp only[Sem.run]at h;have:=gI _ _ _ _ h;exact Gv (zdG w c) this
  | .program k,w,x,w',h=>by simp only[Sem.run]at h;exact gI _ _ _ _ h
  | .mark m k,w,x,w',h=>by simp only[Sem.run]at h;exact gI _ _ _ _ h
  | .halt e,w,x,w',h=>by simp only[Sem.run]at h;cases h
end place
end Go.Pm
namespace Go.Pm
variable [aH]
open Go.RowKit (Below)
section
variable{P:Program}{Γ:bI}{nt B:Nat}{w0:World}{h0:Fz}{g:Gh}{σ:St}{a:Act}{w:World}{r:Option Nat}{n i:Nat}{Q:Exit->Act->World->Prop}
theorem CJ{w w':World}{b:Nat}(hB:B≤b)(h1:w'.heap.size=w.heap.size)(h2:∀k,k≠b→w'.heap[k]? = w.heap[k]?)(h3:w'.os=w.os)(h4:w'.tape=w.tape)(h5:w'.output=w.output)(h6:w'.drawn=w.drawn) :
  JR B w w':=⟨⟨h3,h4,h5,by rw[h1];exact kw _,λk hk=>h2 k omY⟩,by rw[h6];exact kw _⟩
theorem vW{t:TypeId}{m b off:Nat}{C:Array Value}{ty:TypeId}{v:Value}(hs:pU P t=some m)(hm:v.cells.size=m)(hb:w.heap[b]? = some (.cells C ty (0,0)))(hle:off+m≤C.size)
    (h1:∀u∈v.cells.toList,u.oneCell'=true):∃w',(storeVar t ⟨b,off,none⟩ v).run P w=.ok () w'/\w'.heap[b]? = some (.cells (spl C.toList off v.cells.toList).toArray ty (0,0)) /\
      w'.heap.size=w.heap.size/\(∀k,k≠b->w'.heap[k]? = w.heap[k]?)/\w'.os=w.os/\w'.tape=w.tape/\w'.output=w.output/\w'.drawn=w.drawn:=by
  obtain⟨w',hr,rest⟩:=yh (P:=P) v.cells.toList off C w hb (by simpa [hm]using hle) h1 off 0 omY;refine⟨w',?_,rest⟩;simp only[storeVar,Sem.run_bind,run_sizeOf hs,Result.andThen_ok,hm,ne_eq,not_true_eq_false,qd4];exact hr
theorem cells_one{d:D1}{v:Value}(h:Ai g d v)(ho:d.cells.all BV=true):∀u∈v.cells.toList,u.oneCell'=true:=by
 intro u hu;have hr:=uI h ho;obtain⟨j,hj⟩:=Yo hu;obtain⟨c,hc,hcu⟩:=hr.get' j u hj;exact za1 hcu (Af.1 ho c (Jr hc))
theorem nS:∀{cs:List Cl}{l:List PV},jT cs=some l→cs=l.map .p
  | [],l,h=>by simp[jT]at h;subst h;rfl
  | .p v::r,l,h=>by
    simp only[jT]at h;split at h;rename_i l' hl;simp only[bQ]at h;subst h;rw[nS hl];rfl;cases h
  | .ptr _ _::_,l,h=>by simp[jT]at h
  | .vptr _ _ _ _::_,l,h=>by simp[jT]at h
  | .vec _::_,l,h=>by simp[jT]at h
  | .undef::_,l,h=>by simp[jT]at h
  | .junk::_,l,h=>by simp[jT]at h
  | .dead _::_,l,h=>by simp[jT]at h
theorem zna(l:List PV):(l.map Cl.p).all BV=true:=by
 induction l with|nil=>rfl|cons v r ih=>simp[BV,ih]
theorem znb{B e s len:Nat}{v0:Value}{get:Nat→List PV}{k ii kk:Nat}{C:Array Value}{w':World}{l:List PV}{us xs:List Value}
    (hx:w.ownsRow B e s v0 len xs) (hr:∀i,i<len->RL (Rep g.h) (get i) ((xs.drop (i*s)).take s)) (cO:v0.ownBlock=some k) (hi:ii<len) (hk:kk+l.length<=s) (hC:w.heap[k]? = some (.cells C e (0,0)))
    (X8:w'.heap[k]? = some (.cells (spl C.toList (ii*s+kk) us).toArray e (0,0))) (hl:RL (Rep g.h) l us) :
    ∃xs:List Value,w'.ownsRow B e s v0 len xs/\∀i,i<len->RL (Rep g.h) (BX ii kk get l i) ((xs.drop (i*s)).take s):=by
  rcases hx.2 with⟨h1,rfl⟩|⟨k',cap,cur,h1,hB,hg,hn,ku,jH,htk⟩
  exact absurd hi omY;rw [h1]at cO;simp only [Value.ownBlock,bQ]at cO;subst cO;rw[hC]at hg;simp only[bQ,Obj.cells.injEq]at hg;obtain⟨rfl,_⟩:=hg;have hlen:=hl.length;have hii:ii*s+s<=len*s:=by have:=Qz s (qdl hi);rw[Uf]at this;exact this
  have zs9:len*s<=cap*s:=Qz s hn;have hCs:C.toList.length=cap*s:=by simpa using jH
  refine⟨(spl C.toList (ii*s+kk) us).take (len*s),⟨?_,.inr ⟨k',cap,_,h1,hB,X8,hn,ku,?_,rfl⟩⟩,?_⟩;rw[qdF,lI,hCs];omega;simp[lI,jH];intro j hj;have hjs:j*s+s<=len*s:=by have:=Qz s (qdl hj);rw[Uf]at this;exact this
  have hgl:(get j).length=s:=by
    rw[(hr j hj).length];simp only[qdF,qdd,hx.1];omega
  have hsl:(BX ii kk get l j).length=s:=by unfold BX;split<;>simp[lI,hgl]
  refine RL.of_get ?_ ?_;rw[hsl];simp only[qdF,qdd,lI,hCs];omega;intro q x v hq hvq;have hqs:q<s:=by have:=(AL.1 hq).1;omega
  rw[IL,eX hqs,qdg,IL,eX omY,Cm _ _ _ _ (by rw[hCs];omega)]at hvq;have old:∀y,(get j)[q]? = some y->∃v,C.toList[j*s+q]? = some v/\Rep g.h y v:=by
    intro y hy;obtain⟨v,hv,Qs⟩:=(hr j hj).get q y hy;refine⟨v,?_,Qs⟩;rw[IL,eX hqs,qdg,<- htk,IL,eX omY]at hv;exact hv
  unfold BX at hq;split at hq;rename_i hji;have hji:=kP hji;subst hji;rw[Cm _ _ _ _ (by rw[hgl];omega)]at hq;by_cases Ym:kk<=q/\q<kk+l.length;rw [eX Ym]at hq;rw[eX (by rw[<- hlen];omega),show j*s+q-(j*s+kk)=q-kk by omega]at hvq;obtain⟨u,hu,X7⟩:=hl.get _ _ hq;rw[hu]at hvq;simp only[bQ]at hvq;rw[<- hvq];exact X7;rw [fF Ym]at hq;rw[fF (by rw[<- hlen];omega)]at hvq;obtain⟨u,hu,X7⟩:=old x hq;rw[hu]at hvq;simp only[bQ]at hvq;rw[<- hvq];exact X7;rename_i hji;have hji:=qdu hji;have EJ:¬(ii*s+kk<=j*s+q/\j*s+q<ii*s+kk+us.length):=by
    rw[<- hlen];rcases Nat.lt_or_gt_of_ne hji with h|h
    have:=Qz s (qdl h);rw[Uf]at this;omega;have:=Qz s (qdl h);rw[Uf]at this;omega
  rw[fF EJ]at hvq;obtain⟨u,hu,X7⟩:=old x hq;rw[hu]at hvq;simp only[bQ]at hvq;rw[<- hvq];exact X7
theorem znc{B L e s b len:Nat}{get:Nat→List PV}{k ii kk:Nat}{C:Array Value}{w':World}{l:List PV}{us:List Value}
    (hv:Cj P g w B L e s b len get) (cO:(g.sv L).ownBlock=some k) (hi:ii<len) (hk:kk+l.length<=s) (hC:w.heap[k]? = some (.cells C e (0,0)))
    (X8:w'.heap[k]? = some (.cells (spl C.toList (ii*s+kk) us).toArray e (0,0))) (hl:RL (Rep g.h) l us) (hu:tH (BX ii kk get l)):Cj P g w' B L e s b len (BX ii kk get l):=by
  obtain⟨hs,mV,xs,hx,hr⟩:=hv;exact⟨⟨hu,hs.2⟩,mV,znb hx hr cO hi hk hC X8 hl⟩
theorem zba{ii:Nat}{get:Nat->Nat->List PV}{lG:Nat->List PV}(h:Unv get)(h2:tH lG)(hs:smL (get 0 0) (lG 0)=true):Unv (oG ii lG get):=by
 have h3:∀i j k,RS (get i j) (lG k):=λi j k=>((h i j 0 0).trans (JG hs (h 0 0 0 0) (h2 0 0))).trans (h2 0 k);intro i j k l;show RS ((match Nat.beq i ii with|true=>lG|false=>get i) j) ((match Nat.beq k ii with|true=>lG|false=>get k) l);cases Nat.beq i ii<;>cases Nat.beq k ii;exact h _ _ _ _;exact h3 _ _ _;exact(h3 _ _ _).symm;exact h2 _ _
theorem J7:∀L∈cu .junk,∃o,lk σ.aB L=some o:=λL hL=>by simp[cu,dC,bu]at hL
def Gm(g g':Gh):Prop:=g'.h=g.h/\g'.bk=g.bk/\g'.sv=g.sv/\∀L i,(∃b,g.iv L i=.map (some b))->g'.iv L i=g.iv L i
theorem zgN{g g':Gh}(H:Gm g g'){c:Cl}{x:Value}(h:ja g c x):ja g' c x:=by
 obtain⟨h1,h2,h3,h4⟩:=H;cases c with
 | p v=>simp only[ja]at h ⊢;rw[h1];exact h
 | ptr L off=>simp only[ja]at h ⊢;rw[h2];exact h
 | vptr L s i k=>simp only[ja]at h ⊢;rw[h3];exact h
 | vec L=>simp only[ja]at h ⊢;rw[h3];exact h
 | mo L=>simp only[ja]at h ⊢;rw[h3];exact h
 | clo f caps=>obtain⟨cv,e,hr⟩:=h;exact⟨cv,e,qB (λ_ _ hp=>by rw[h1];exact hp) (λL _=>by rw[h2]) hr⟩
 | undef=>exact h
 | junk=>trivial
 | dead L=>trivial
theorem ztG{g g':Gh}(H:Gm g g'){cs:List Cl}{vs:List Value}(h:RL (ja g) cs vs):RL (ja g') cs vs:=h.mono λ_ _=>zgN H
theorem zgO{g g':Gh}(H:Gm g g'){d:D1}{x:Value}(h:Ai g d x):Ai g' d x:=by
 cases d with
 | c y=>exact zgN H h
 | agg cs=>obtain⟨vs,rfl,hr⟩:=h;exact⟨vs,rfl,ztG H hr⟩
theorem zwK{g g':Gh}(H:Gm g g'){d:DV}{x:Value}(h:qM g d x):qM g' d x:=by
 cases d with
 | one y=>exact zgO H h
 | tup ds=>obtain⟨vs,rfl,hr⟩:=h;exact⟨vs,rfl,hr.mono λ_ _=>zgO H⟩
theorem bW.setVec(S:bW P nt B w0 h0 g σ a w){L M te bb e s OL len m ii:Nat}{ln:Nat→Nat}{get:Nat→Nat→List PV}{lG:Nat→List PV}(hL:lk σ.aB L=some (.vt te bb e s OL len ln get ii))
    (hM:lk σ.aB M=some (.vec e s OL m lG)) (jb:L≠M) (hi:ii<len) (hm:0<m) (Ii:Unv (oG ii lG get)) {k:Nat} {C:Array Value} {w':World} (cO:(g.sv L).ownBlock=some k) (hC:w.heap[k]? = some (.cells C te (0,0)))
    (X8:w'.heap[k]? = some (.cells (C.setIfInBounds ii (g.sv M)) te (0,0))) (qy:∀b,b≠k->w'.heap[b]? = w.heap[b]?) (hb:JR B w w') :
    bW P nt B w0 h0 ⟨g.h,g.bk,g.sv,λX i=>if X=L/\i=ii then g.sv M else g.iv X i⟩ {σ with aB:=(L,.vv te bb e s OL len (oG ii m ln) (oG ii lG get))::(M,.gone)::σ.aB} a w':=by
  have oL:=S.obj L _ hL;obtain⟨iF,zPu,zFd,zl0,_,sW,Gt,IK⟩:=oL;obtain⟨_,_,xsM,hxM,hrM⟩:=S.obj M _ hM;obtain⟨kM,z2f,hvM⟩:∃kM cap,g.sv M=.slice (some ⟨kM,0,none⟩) m cap:=by
    rcases hxM.2 with⟨_,h2⟩|⟨k2,cap,_,h1,_⟩
    omega;exact⟨k2,cap,h1⟩
  have hoM:(g.sv M).ownBlock=some kM:=by rw[hvM];rfl
  have H:Gm g ⟨g.h,g.bk,g.sv,λX i=>if X=L/\i=ii then g.sv M else g.iv X i⟩:=by
    refine⟨rfl,rfl,rfl,λX i hx=>?_⟩;show(if X=L/\i=ii then _ else _)=_;rw[fF];rintro⟨rfl,rfl⟩;obtain⟨b,hx⟩:=hx;exact sW b hx
  have hkB:gQ g L (.vt te bb e s OL len ln get ii) k:=.inl cO;have hMB:gQ g M (.vec e s OL m lG) kM:=hoM
  have jZ:∀X o,lk ((L,AO.vv te bb e s OL len (oG ii m ln) (oG ii lG get))::(M,.gone)::σ.aB) X=some o ->
      (X=L/\o=.vv te bb e s OL len (oG ii m ln) (oG ii lG get))\/(X=M/\o=.gone)\/(X≠L/\X≠M/\lk σ.aB X=some o):=by
    intro X o h;rw[aW]at h;split at h;rename_i e;simp at h;exact .inl ⟨e.symm,h.symm⟩;rename_i e;rw[aW]at h;split at h;rename_i e2;simp at h;exact .inr (.inl ⟨e2.symm,h.symm⟩);rename_i e2;exact .inr (.inr ⟨λx=>e x.symm,λx=>e2 x.symm,h⟩)
  have xP:∀X o,lk σ.aB X=some o->∃o',lk ((L,AO.vv te bb e s OL len (oG ii m ln) (oG ii lG get))::(M,.gone)::σ.aB) X=some o':=by
    intro X o h;rw[aW];split;exact⟨_,rfl⟩;rw [aW];split;exact⟨_,rfl⟩;exact⟨o,h⟩
  have zPw:∀X i,X≠L->(if X=L/\i=ii then g.sv M else g.iv X i)=g.iv X i:=λX i hx=>fF λe=>hx e.1;have zgP:∀i,i≠ii->(if L=L/\i=ii then g.sv M else g.iv L i)=g.iv L i:=λi hx=>fF λe=>hx e.2;have fB:∀X,X≠L->iV g ⟨g.h,g.bk,g.sv,λX i=>if X=L/\i=ii then g.sv M else g.iv X i⟩ X:=λX hx=>⟨rfl,rfl,funext λi=>zPw X i hx⟩;have hMk:kM≠k:=λe=>jb (S.sep L _ k M _ hL hM hkB (by rw[<- e];exact hMB));have zgQ:∀b,gQ ⟨g.h,g.bk,g.sv,λX i=>if X=L/\i=ii then g.sv M else g.iv X i⟩ L (.vv te bb e s OL len (oG ii m ln) (oG ii lG get)) b->gQ g L (.vt te bb e s OL len ln get ii) b\/b=kM:=by
    rintro b (mW|⟨i,kX,mW⟩);exact .inl (.inl mW);by_cases e:i=ii;subst e;have mW:(if L=L/\i=i then g.sv M else g.iv L i).ownBlock=some b:=mW;rw[eX ⟨rfl,rfl⟩,hoM]at mW;simp only[bQ]at mW;exact .inr mW.symm;have mW:(if L=L∧i=ii then g.sv M else g.iv L i).ownBlock=some b:=mW;rw[zgP i e]at mW;exact .inl (.inr ⟨i,kX,e,mW⟩)
  refine⟨S.dfr,S.size,λt d h=>zwK H (S.env t d h),?_,?_,?_,?_,S.le0,S.hn,S.below.trans (.of hb),Gv S.bs hb.size,λt d h X hX=>?_,?_⟩;intro X o ho;rcases jZ X o ho with⟨rfl,rfl⟩|⟨rfl,rfl⟩|⟨n1,n2,ho⟩
  refine⟨⟨Ii,iF.2⟩,zPu,zFd,?_,?_,?_⟩;refine⟨by simp,?_⟩;rcases zl0.2 with⟨h1,h2⟩|⟨k',cap,cur,h1,hB,hg,hn,ku,jH,htk⟩
  omega;rw [h1]at cO;simp only [Value.ownBlock,bQ]at cO;subst cO;rw[hC]at hg;simp only[bQ,Obj.cells.injEq]at hg;obtain⟨rfl,_⟩:=hg;refine .inr ⟨k',cap,_,h1,hB,X8,hn,ku,by simpa using jH,?_⟩;apply qdf;intro j;have hj:=kz (λl=>l[j]?) htk;simp only[IL,dq4]at hj;simp only[Array.toList_setIfInBounds,IL,qjB,dq4];by_cases hjn:j<len*1;have zPx:j<len:=by omega
  rw[eX hjn]at hj ⊢;rw[qd8 zPx]at hj ⊢;simp only[QA]at hj ⊢;by_cases e:ii=j;subst e;rw[eX rfl,eX (by simp;omega)];simp;rw [fF e,hj];simp only[true_and];rw[fF (λx=>e x.symm)];rw[fF hjn,qdh (by simp;omega)];rfl;intro i kX;by_cases e:i=ii;subst e;have e2:oG i m ln i=m:=by simp[oG]
  have e3:oG i lG get i=lG:=by simp[oG]
  rw[e2,e3];show(if X=X/\i=i then g.sv M else g.iv X i).oneCell'=true/\(m=0->(if X=X/\i=i then g.sv M else g.iv X i)=_)/\∃xs,w'.ownsRow B _ s (if X=X/\i=i then g.sv M else g.iv X i) m xs/\_;rw[eX ⟨rfl,rfl⟩];refine⟨by rw[hvM];rfl,λh=>absurd h omY,xsM,je hxM λb mW=>qy b λe=>hMk ?_,hrM⟩;rw[hoM]at mW;simp only[bQ]at mW;omega;have hbf:Nat.beq i ii=false:=by cases hq:Nat.beq i ii with|true=>exact absurd (kP hq) e|false=>rfl
  have e2:oG ii m ln i=ln i:=by simp only[oG,hbf]
  have e3:oG ii lG get i=get i:=by simp only[oG,hbf]
  rw[e2,e3];show(if X=X/\i=ii then g.sv M else g.iv X i).oneCell'=true/\(ln i=0->(if X=X/\i=ii then g.sv M else g.iv X i)=_)/\∃xs,w'.ownsRow B _ s (if X=X/\i=ii then g.sv M else g.iv X i) (ln i) xs/\_;rw[zgP i e];obtain⟨x1,x2,xs,x3,x4⟩:=Gt i kX e;exact⟨x1,x2,xs,je x3 λb mW=>qy b λe'=>(IK i b kX e mW).1 (by rw[e'];exact cO),x4⟩;intro i b kX mW;have fresh:∀j,j<len->j≠ii->(g.iv X j).ownBlock≠some kM:=λj hj hji e=>jb (S.sep X _ kM M _ hL hM (.inr ⟨j,hj,hji,e⟩) hMB);by_cases e:i=ii;subst e;have mW:(if X=X/\i=i then g.sv M else g.iv X i).ownBlock=some b:=mW;rw[eX ⟨rfl,rfl⟩,hoM]at mW;simp only[bQ]at mW;subst mW;refine⟨λh=>hMk ?_,λj hj hjb=>?_⟩;rw[cO]at h;simp only[bQ]at h;exact h.symm;by_cases e:j=i;exact e.symm;have hjb:(if X=X∧j=i then g.sv M else g.iv X j).ownBlock=_:=hjb;rw[zgP j e]at hjb;exact(fresh j hj e hjb).elim;have mW:(if X=X∧i=ii then g.sv M else g.iv X i).ownBlock=some b:=mW;rw[zgP i e]at mW;have Ur:=mW;refine⟨(IK i b kX e mW).1,λj hj hjb=>?_⟩;have hjb:(if X=X/\j=ii then g.sv M else g.iv X j).ownBlock=_:=hjb;by_cases e2:j=ii;subst e2;rw[eX ⟨rfl,rfl⟩,hoM]at hjb;simp only[bQ]at hjb;subst hjb;exact(fresh i kX e Ur).elim;rw [zgP j e2]at hjb;exact(IK i b kX e mW).2 j hj e2 hjb;trivial
  · cases o with
    | box ty cs =>
      obtain⟨C',hC2,hr⟩:=S.obj X _ ho;refine⟨C',?_,ztG H hr⟩;rw[qy _ λe=>n1 (S.sep X _ k L _ ho hL e hkB)];exact hC2
    | _=>exact jM (S.obj X _ ho) (fB X n1) (λ_ h=>by simp[dU]at h) (λ_ _ h=>h) λb mW=>qy b λe=>n1 (S.sep X _ b L _ ho hL mW (by rw[e];exact hkB))
  intro X o b ho iq;rcases jZ X o ho with⟨rfl,rfl⟩|⟨rfl,rfl⟩|⟨n1,n2,ho⟩
  rcases zgQ b iq with h|rfl
  exact S.own _ _ b hL h;exact S.own M _ _ hM hMB;exact iq.elim;rw[gG (fB X n1)]at iq;exact S.own X o b ho iq;intro X o b Y o' ho kH hb1 Ur;rcases jZ X o ho with⟨rfl,rfl⟩|⟨rfl,rfl⟩|⟨n1,n2,oh⟩<;>rcases jZ Y o' kH with⟨rfl,rfl⟩|⟨rfl,rfl⟩|⟨n1',n2',mY⟩
  rfl;exact Ur.elim;rw [gG (fB Y n1')]at Ur;rcases zgQ b hb1 with h|rfl
  exact S.sep _ _ b Y _ hL mY h Ur;exact(n2' (S.sep M _ _ Y _ hM mY hMB Ur).symm).elim;exact hb1.elim;exact hb1.elim;exact hb1.elim;rw [gG (fB X n1)]at hb1;rcases zgQ b Ur with h|rfl
  exact S.sep X _ b _ _ oh hL hb1 h;exact(n2 (S.sep X _ _ M _ oh hM hb1 hMB)).elim;exact Ur.elim;rw [gG (fB X n1)]at hb1;rw[gG (fB Y n1')]at Ur;exact S.sep X _ b Y _ oh mY hb1 Ur;exact S.hw.same λb x ER=>qy b λe=>by subst e;have:=(S.own L _ b hL hkB).2;rw[ER]at this;cases this
  obtain⟨o,ho⟩:=S.clE t d h X hX;exact xP X o ho;intro X o ho Y hY;rcases jZ X o ho with⟨rfl,rfl⟩|⟨rfl,rfl⟩|⟨n1,n2,ho⟩
  simp[dU]at hY;simp[dU]at hY;obtain⟨o',kH⟩:=S.clO X o ho Y hY;exact xP Y o' kH
theorem zdH{o:Oper}{t:TypeId}{x y:Operand}{A:aJ}(S:bW P nt B w0 h0 g σ a w)(hd:dI nt o.dst=true)(bf:o.op = .store t x y)
    (hA:act P Γ o (fK σ.env) (lk σ.aB)=A) (hs:A.safe):jf P nt B w0 h0 r n i o A σ a w Q:=by
  simp only[act,aSt,bf]at hA;split at hA;rename_i m L off d jH hx hy;have xW:=(iJ S hx).1;simp only[ja]at xW;have hdR:=S.ev y;have hdL:=S.evLab y;rw[hy]at hdR hdL;split at hA;rename_i ty cells hL;obtain⟨C,hC,hr⟩:=S.obj L _ hL;split at hA;rename_i dh;simp only[gz,Ug]at dh;obtain⟨⟨hm,hle⟩,fP⟩:=dh;have hm:=kP hm;subst hA;have TZ:=uI hdR fP;have Ad:=TZ.length;have nH:=hr.length;have hvm:(a.eval y).cells.size=m:=by rw[<- hm,Ad];simp
  have hCl:cells.length=C.size:=by rw[nH];simp
  obtain⟨w',df,hb,X9,qy,h5,h6,h7,h8⟩:=vW (P:=P) (m:=m) (off:=off) (v:=a.eval y) jH hvm hC omY (cells_one hdR fP);have iZ:=S.own L _ _ hL rfl
  have S' := S.write (o' := .box ty (spl cells off d.cells)) hL (fun b hb => hb) (CJ iZ.1 X9 qy h5 h6 h7 h8) (fun b hb => qy b (fun e => hb (by rw [e]; rfl)))
    ⟨_,hb,by simpa using hr.spl TZ off⟩ (λM hM=>by
      rcases za6 off M hM with h|h
      exact S.clO L _ hL M h
      · refine hdL M ?_;cases d with|c z=>simpa [D1.cells,cu,dC]using h|agg cs=>simpa [D1.cells,cu,dC]using h)
  refine IV (by simp[bf]) (w':=w') ?_ ⟨g,_,rfl,by rw[fO];exact S'.put hd (d:=.junk) trivial J7 _⟩;simp only[execOp,bf,Sem.run_bind,Instr.storeAt,xW,Instr.sureAddr,Sem.run_pure,Result.andThen_ok,df];subst hA;exact hs.elim;subst hA;exact hs.elim;rename_i m L s ii kk d jH hx hy;obtain⟨b,cO,xW⟩:=(iJ S hx).1;have hdR:=S.ev y;rw[hy]at hdR;split at hA;rename_i e s' OL len get hL;split at hA;rename_i l hl;split at hA;rename_i dh;simp only[gz,Ug]at dh;obtain⟨⟨⟨OJ,hm⟩,hle⟩,rO⟩:=dh;have OJ:=kP OJ;have hm:=kP hm;subst OJ;subst hA;have iw:ii<len:=hs;have hcs:=nS hl;have fP:d.cells.all BV=true:=by rw[hcs];exact zna l
  have TZ:=uI hdR fP;have Ad:=TZ.length;rw[hcs]at TZ;have TZ:=RL.map_left.1 TZ;obtain⟨b',C,iq,⟨cap,lW⟩,hC,hCs,hgl,_⟩:=uK (S.obj L _ hL) iw;rw[cO]at iq;simp only[bQ]at iq;subst iq;have hlc:l.length=(a.eval y).cells.size:=by rw[hcs,qdO]at Ad;simpa using Ad
  obtain⟨w',df,hb,X9,qy,h5,h6,h7,h8⟩:=vW (P:=P) (v:=a.eval y) jH omY hC (show ii*s+kk+m<=C.size by omega) (cells_one hdR fP);have iZ:=S.own L _ _ hL cO;have Ii:=(S.obj L _ hL).1.1;have hu0:=(Ii 0 ii).length;have hvr:=znc (S.obj L _ hL) cO iw omY hC hb TZ (za2 Ii omY (by rw[hm];exact rO) (yg TZ));have hnz:nzG (get 0) (BX ii kk get l)=BX ii kk get l:=Yq λj=>by
    have h1:=za2 (i:=ii) Ii (show kk+l.length<=(get 0).length by omega) (by rw[hm];exact rO) (yg TZ) (ii+1) j;have h2:BX ii kk get l (ii+1)=get (ii+1):=by unfold BX;rw[show Nat.beq (ii+1) ii=false from Bool.eq_false_iff.2 λh=>by have:=kP h;omega]
    rw[h2]at h1;exact(Ii 0 (ii+1)).trans h1
  rw[hnz];have S':=S.write (o':=.vec e s OL len (BX ii kk get l)) hL (λb hb=>hb) (CJ iZ.1 X9 qy h5 h6 h7 h8) (λk hk=>qy k (λe=>hk (by rw[e];exact cO))) hvr (λM hM=>by simp[dU]at hM);refine IV (by simp[bf]) (w':=w') ?_ ⟨g,_,rfl,by rw[fO];exact S'.put hd (d:=.junk) trivial J7 _⟩;simp only[execOp,bf,Sem.run_bind,Instr.storeAt,xW,Instr.sureAddr,Sem.run_pure,Result.andThen_ok,df];subst hA;exact hs.elim;subst hA;exact hs.elim;rename_i te bb e s' OL len ln get io hL;split at hA;rename_i M;split at hA;rename_i e2 s2 b2 mm lG hM;split at hA;rename_i dh;simp only[gz,N8]at dh;obtain⟨⟨⟨h1,h2⟩,h3⟩,h4⟩:=dh;have h1:=kP h1;have h2:=kP h2;have h3:=kP h3;have h4:=qdu h4;subst h1 h2 h3;split at hA;rename_i hq;obtain⟨rfl,rfl,rfl,rO⟩:=hq;subst hA;have hnz:zwp (get 0 0) (oG ii lG get)=oG ii lG get:=zmZ λi j=>by
    have h1:=zba (ii:=ii) (S.obj L _ hL).1.1 (S.obj M _ hM).1.1 rO (ii+1) 0 i j;have h2:oG ii lG get (ii+1)=get (ii+1):=by unfold oG;rw[show Nat.beq (ii+1) ii=false from Bool.eq_false_iff.2 λh=>by have:=kP h;omega]
    rw[h2]at h1;exact((S.obj L _ hL).1.1 0 0 (ii+1) 0).trans h1
  rw[hnz];have iw:ii<len/\ii=io/\0<mm:=hs;obtain⟨zL6,rfl,zYR⟩:=iw;obtain⟨b',C,cap,lW,hC,nG⟩:=UU (S.obj L _ hL) zL6;obtain⟨_,hB,zL0⟩:∃_:True,B<=b'/\ii<C.size:=⟨trivial,(S.own L _ b' hL (.inl (by rw[lW];rfl))).1,(Us.1 nG).1⟩;rw[lW]at cO;simp only[Value.ownBlock,bQ]at cO;subst cO;have Qs:a.eval y=g.sv M/\_:=hdR;have Ad:(a.eval y).cells = #[g.sv M]:=by
    obtain⟨_,_,xsM,hxM,_⟩:=S.obj M _ hM;rw[Qs.1];rcases hxM.2 with⟨h1,_⟩|⟨_,_,_,h1,_⟩<;>rw[h1]<;>rfl
  have hoc:(g.sv M).oneCell'=true:=by
    obtain⟨_,_,xsM,hxM,_⟩:=S.obj M _ hM;rcases hxM.2 with⟨h1,_⟩|⟨_,_,_,h1,_⟩<;>rw[h1]<;>rfl
  obtain⟨w',df,hb,X9,qy,h5,h6,h7,h8⟩:=vW (P:=P) (m:=1) (off:=ii*1+0) (v:=a.eval y) jH (by rw[Ad];rfl) hC omY (by rw[Ad];simpa using hoc);have mW:w'.heap[b']? = some (.cells (C.setIfInBounds ii (g.sv M)) te (0,0)):=by
    rw[hb,Ad];congr 2;simp only[spl];apply Array.toList_inj.1;simp
  have S':=S.setVec hL hM h4 zL6 zYR (zba (S.obj L _ hL).1.1 (S.obj M _ hM).1.1 rO) (by rw[lW];rfl) hC mW qy (CJ hB X9 qy h5 h6 h7 h8);refine IV (by simp[bf]) (w':=w') ?_ ⟨_,_,rfl,by rw[fO];exact S'.put hd (d:=.junk) trivial J7 _⟩;simp only[execOp,bf,Sem.run_bind,Instr.storeAt,xW,Instr.sureAddr,Sem.run_pure,Result.andThen_ok,df];subst hA;exact hs.elim;subst hA;exact hs.elim;subst hA;exact hs.elim;subst hA;exact hs.elim;subst hA;exact hs.elim;subst hA;exact hs.elim
end
end Go.Pm
namespace Go.Pm
variable [aH]
open Go.RowKit (Below)
section
variable{P:Program}{Γ:bI}{nt B:Nat}{w0:World}{h0:Fz}{g:Gh}{σ:St}{a:Act}{w:World}{r:Option Nat}{n i:Nat}{Q:Exit->Act->World->Prop}
theorem Gz{ob:Nat→Option AO}:∀{cs:List Cl}{l:List PV}{u:lX},jr ob cs=some (l,u)→cs.all BV=true∧l.length=cs.length
  | [],l,u,h=>by simp[jr]at h;rw[h.1];exact⟨rfl,rfl⟩
  | c::cs,l,u,h=>by
    simp only[jr]at h;split at h;rename_i v u1 l2 u2 h1 h2;simp only[bQ,gm]at h;rw[<- h.1];obtain⟨h3,h4⟩:=Gz h2;refine⟨?_,by simp[h4]⟩;have:BV c=true:=by
      unfold zM at h1;split at h1;rfl;rfl;cases h1
    simp[this,h3];cases h
theorem J8{ob:Nat->Option AO}{ev:Operand->DV}{s:Nat}:∀(parts:List (Nat×Operand))(i:Nat)(ls:List (List PV))(u:lX)(jc:List Nat),
  jl ob ev s i parts=some (ls,u,jc)->fA ob u
 | [],i,ls,u,jc,h=>by simp[jl]at h;rw[h.2.1];exact fA.nil ob
 | (j,o)::r,i,ls,u,jc,h=>by
  simp only[jl]at h;split at h;split at h;split at h;rename_i h1 h2;split at h;simp only [bQ,gm]at h;rw[<- h.2.1];exact(JW h1).append (J8 r _ _ _ _ h2);cases h;cases h;cases h;cases h
theorem J9{ob:Nat→Option AO}{ev:Operand→DV}{ρ:Operand→Value}{s:Nat}{u':lX}{h':Fz}(hev:∀o,qM g (ev o) (ρ o))(F:fG g ob u' h') :
    ∀(parts:List (Nat×Operand))(i:Nat)(ls:List (List PV))(u:lX)(jc:List Nat)(C:Array Value)(N:Nat),jl ob ev s i parts=some (ls,u,jc)->(∀y∈u,y∈u') ->
      C.size=N*s->i+ls.length<=N ->
      ∃ D:Array Value,Instr.fill (λ k=>some (k * s,s)) C (parts.map λ x=>(x.1,ρ x.2))=some D/\D.size=C.size/\(∀ q,q < i * s->D[q]? = C[q]?) /\
        ∀k l,ls[k]? = some l->RL (Rep h') l ((D.toList.drop ((i+k)*s)).take s)
  | [],i,ls,u,jc,C,N,h,hu,hC,hN=>by
    simp[jl]at h;refine⟨C,rfl,rfl,λ_ _=>rfl,?_⟩;intro k l hk;rw[h.1]at hk;simp at hk
  | (j,o)::r,i,ls,u,jc,C,N,h,hu,hC,hN=>by
    have hd:=hev o;simp only[jl]at h;split at h;rename_i NY;have NY:=kP NY;subst NY;split at h;rename_i d he;rw[he]at hd;split at h;rename_i l1 u1 ls1 us1 zFg h1 h2;split at h;rename_i hlen;have hlen:=kP hlen;simp only[bQ,gm]at h;obtain⟨hls,NQ,_⟩:=h;subst hls;rw[<- NQ]at hu;obtain⟨fP,hll⟩:=Gz h1;have TZ:=uI hd fP;have Ad:=TZ.length;have zf0:=F.repL0 h1 (λy hy=>hu y (dW.2 (.inl hy))) TZ;have jE:(ρ o).cells.size=s:=by
      have:(ρ o).cells.toList.length=(ρ o).cells.size:=by simp
      omega
    simp only[EN]at hN;have hb:i*s+s<=N*s:=by have:=Qz s (show i+1<=N by omega);rw[Uf]at this;exact this
    obtain ⟨D, hD, hDs, zaM, Gt⟩ := J9 hev F r (i + 1) ls1 us1 zFg (spl C.toList (i * s) (ρ o).cells.toList).toArray N h2 (fun y hy => hu y (dW.2 (.inr hy)))
      (by simp[lI,hC]) omY
    have jH:(spl C.toList (i*s) (ρ o).cells.toList).toArray.size=C.size:=by simp[lI]
    have zaO:∀q,(spl C.toList (i*s) (ρ o).cells.toList).toArray[q]? = if i*s<=q/\q<i*s+s then(ρ o).cells.toList[q-i*s]? else C[q]?:=by
      intro q;simp only[qjI];rw[Cm _ _ _ _ (by simp[jE,hC];omega)];simp[jE]
    refine⟨D,?_,hDs.trans jH,?_,?_⟩;simp only [o5,Instr.fill];have h3:¬((decide ((ρ o).cells.size≠s)||decide (i*s+(ρ o).cells.size>C.size))=true):=by simp[jE,hC];omega
    rw[fF h3,<- hD];refine kz (λz=>Instr.fill _ z _) ?_;have:=E5 (i*s) (ρ o).cells.toList 0 C;rw[qdW]at this;rw[<- this];cases(ρ o).cells;simp;intro q hq;rw[zaM q (by rw[Uf];omega),zaO,fF omY]
    · intro k l hk;cases k with
      | zero =>
        simp only[qdy,bQ]at hk;subst hk;have e:(D.toList.drop ((i+0)*s)).take s=(ρ o).cells.toList:=by
          apply qdf;intro q;by_cases hq:q<s;rw [IL,eX hq,qdg,qdW];have:=zaM (i*s+q) (by rw[Uf];omega);rw[zaO,eX omY,show i*s+q-i*s=q by omega]at this;simpa using this;rw [IL,fF hq];symm;apply qdh;simp[jE];omega
        rw[e];exact zf0
      | succ k =>
        have:=Gt k l (by simpa using hk);rwa[show i+1+k=i+(k+1)by omega]at this
    cases h;cases h;cases h;cases h
theorem Ko(ls:List (List PV))(k:Nat)(h:k<ls.length):ls[k]? = some (AQ ls k):=by
 unfold AQ;split;simp at h;rename_i c;simp at h;subst h;rfl;rename_i c r _;have:∃x,(c::r)[k]? = some x:=⟨_,Ae h⟩;obtain⟨x,hx⟩:=this;simp only[hx]
theorem iW{e:TypeId}{z:List Cl}(hz:gK P e=some z){ie:TypeInfo}(hi:P.info? e=some ie):∃v,ie.zero=some v/\v.cells.size=ie.size:=by
 obtain⟨i',v,h1,h2,h3⟩:=zdx hz;rw[hi]at h1;simp only[bQ]at h1;subst h1;exact⟨v,h2,h3⟩
theorem Kq{o:Oper}{t:TypeId}{m:Nat}{parts:Array (Nat×Operand)}{A:aJ}(S:bW P nt B w0 h0 g σ a w)(hd:dI nt o.dst=true)(bf:o.op = .buildSlice t m parts)
    (hA:act P Γ o (fK σ.env) (lk σ.aB)=A) (hs:A.safe):jf P nt B w0 h0 r n i o A σ a w Q:=by
  simp only[act,aBs,bf]at hA;split at hA;rename_i e hu;split at hA;rename_i ie hi;split at hA;rename_i ls u jc hp;split at hA;rename_i z dst dh hz Gp;split at hA;rename_i gV;simp only[gz,Ug]at dh;obtain⟨⟨⟨hm,zYQ⟩,iF⟩,rO⟩:=dh;have hm:=kP hm;subst hA;obtain⟨zv,Gq,zZ⟩:=iW hz hi;have fP:=J8 _ _ _ _ _ hp;obtain⟨h',S1,F⟩:=S.freeze fP;have jH:pU P e=some ie.size:=by simp[pU,hi]
  obtain⟨D,hD,hDs,_,Gt⟩:=J9 (λx=>S.ev x) F parts.toList 0 ls u jc ((Array.range (m*ie.size)).map (zv.cells[· % zv.cells.size]!)) m hp (λ_ h=>h) (by simp) omY;have znd:D.size=m*ie.size:=by rw[hDs];simp
  have hmm:m<=1000000:=Gv (Nat.le_mul_of_pos_right m iF) zYQ;let w':=w.alloc (.cells D e);have df:(execOp a.eval o).run P w=.ok (.value (.slice (some ⟨w.heap.size,0,none⟩) m m)) w':=by
    simp only[execOp,bf,Instr.buildSlice,Sem.run_bind,run_underlying hu,Result.andThen_ok,run_sizeOf jH];rw[Sem.run_ite,fF omY];by_cases h00:m*ie.size=0;have hm0:m=0:=by
      rcases Nat.mul_eq_zero.1 h00 with h|h
      exact h;omega
    subst hm0;have hpn:parts.toList=[]:=by
      cases Ig:parts.toList with
      | nil=>rfl
      | cons x xs =>
        rw[Ig]at hp;obtain⟨j,q⟩:=x;simp only[jl]at hp;split at hp;split at hp;split at hp;split at hp;simp only [bQ,gm]at hp;rw[<- hp.1]at hm;simp at hm;cases hp;cases hp;cases hp;cases hp
    have hDe:D = #[]:=by apply Array.eq_empty_of_size_eq_zero;simp[znd]
    rw[eX (by simp)];simp only[Sem.run_bind,Sem.run_pure,Result.andThen_ok,qjl,hpn,qdQ,Instr.fill];simp only[hDe,newRow,jqy,Sem.run_bind,run_newObj,Result.andThen_ok,Sem.run_pure,w'];rw[show(Array.range 0) = #[]from rfl,List.map_toArray];rfl;rw [fF h00];simp only[Sem.run_bind,kT hi Gq,Sem.run_pure,Result.andThen_ok,qjl];rw[hD];simp[w',newRow]
  have hnz:nzG (AQ (ls.map (zO P e)) 0) (AQ (ls.map (zO P e)))=AQ (ls.map (zO P e)):=Yq λi=>UC (λc hc=>by
    obtain⟨c,hc,rfl⟩:=xq.1 hc;obtain⟨k,hk⟩:=Yo ‹c∈ls›;exact yg (uF (Gt k _ hk))) rO 0 i
  rw[hnz];have zgR:Cj P ((⟨h',g.bk,g.sv,g.iv⟩:Gh).setSv dst (.slice (some ⟨w.heap.size,0,none⟩) m m)) w' B dst e ie.size ie.bytes m (AQ (ls.map (zO P e))):=by
    refine⟨⟨UC (λc hc=>?_) rO,iF⟩,⟨ie,zv,hi,rfl,rfl,Gq,zZ⟩,D.toList,?_,?_⟩;obtain⟨c,hc,rfl⟩:=xq.1 hc;obtain⟨k,hk⟩:=Yo ‹c∈ls›;exact yg (uF (Gt k _ hk));rw [show((⟨h',g.bk,g.sv,g.iv⟩:Gh).setSv dst (.slice (some ⟨w.heap.size,0,none⟩) m m)).sv dst = .slice (some ⟨w.heap.size,0,none⟩) m m by simp [Gh.setSv]];refine⟨by simpa using znd,.inr ⟨w.heap.size,m,D,rfl,S.bs,heap_alloc_new w _,kw _,?_,znd,?_⟩⟩;simp only[maxLen];omega;rw[<- znd,<- qd7,List.take_length];intro k hk;have:=Gt k _ (Ko ls k omY);rw[Oa]at this;have e2:AQ (ls.map (zO P e)) k=zO P e (AQ ls k):=by
      have h1:=Ko (ls.map (zO P e)) k (by rw[qdO];omega);rw[dq4,Ko ls k omY,QA,bQ]at h1;exact h1.symm
    rw[e2];exact uF this
  have zZu:lk (u++σ.aB) dst=none:=by
    rw[gU];cases hl:lk u dst with
    | none=>exact gV
    | some x =>
      have:=fP _ (fH hl);rcases this with⟨_,_,_,_,_,h5,_⟩|⟨_,_,_,_,h5,_⟩|⟨_,_,_,_,_,_,_,_,h5,_⟩<;>(simp only at h5;rw[gV]at h5;cases h5)
  have S2:=S1.newVec (t:=dst) (w':=w') zZu ⟨(Below.refl B w).alloc S.bs _,kw _⟩ (λb hb=>heap_alloc_old w _ b hb) (λb hb=>by simp[Value.ownBlock]at hb;omega) zgR;refine o8 (by simp[bf]) df ⟨(⟨h',g.bk,g.sv,g.iv⟩:Gh).setSv dst (.slice (some ⟨w.heap.size,0,none⟩) m m),σ.upd i o.dst (wr jc++[(dst,true)]) (.cl (.vec dst)) ((dst,.vec e ie.size ie.bytes m (AQ (ls.map (zO P e))))::u) [],rfl,?_⟩;rw[fO];refine S2.put (v:=.slice (some ⟨w.heap.size,0,none⟩) m m) hd (d:=.cl (.vec dst)) ?_ ?_ _;simp[qM,Ai,ja,Gh.setSv,Value.oneCell'];intro L hL;simp[cu,dC,bu]at hL;subst hL;exact⟨_,by rw[aW,eX rfl]⟩;subst hA;exact hs.elim;subst hA;exact hs.elim;subst hA;exact hs.elim;subst hA;exact hs.elim;subst hA;exact hs.elim
end
end Go.Pm
namespace Go.Pm
variable [aH]
open Go.RowKit (Below)
theorem oJ{α:Type}{f:α->α}{l:List (Nat×α)}{k:Nat}:lk (kills f l) k=(lk l k).map f:=by
 induction l with
 | nil=>rfl
 | cons x l ih =>
  obtain⟨j,a⟩:=x;rw[kills,aW,aW];split;rfl;exact ih
section
variable{P:Program}{Γ:bI}{nt B:Nat}{w0:World}{h0:Fz}{g:Gh}{σ:St}{a:Act}{w:World}{r:Option Nat}{n i:Nat}{Q:Exit->Act->World->Prop}
theorem zbb{l:List Nat}{g':Gh}(hh:jP g.h g'.h)(sV:∀M,g'.bk M=g.bk M)(hs:∀M,M∉l->iV g g' M){c:Cl}{x:Value}(h:ja g c x):ja g' (fQ l c) x:=by
 cases c with
 | p v=>exact Rep.mono hh h
 | ptr M off=>simp only[fQ,ja]at h ⊢;rw[sV M];exact h
 | vptr M s k q =>
  show ja g' (match l.contains M with|true=>.dead M|false=>.vptr M s k q) x;cases hM:l.contains M with
  | true=>trivial
  | false =>
   have jb:M∉l:=by simpa using hM
   simpa [ja,(hs M jb).2.1]using h
 | vec M =>
  show ja g' (match l.contains M with|true=>.dead M|false=>.vec M) x;cases hM:l.contains M with
  | true=>trivial
  | false =>
   have jb:M∉l:=by simpa using hM
   simpa [ja,(hs M jb).2.1]using h
 | mo M =>
  show ja g' (match l.contains M with|true=>.dead M|false=>.mo M) x;cases hM:l.contains M with
  | true=>trivial
  | false =>
   have jb:M∉l:=by simpa using hM
   simpa [ja,(hs M jb).2.1]using h
 | clo f caps=>obtain⟨cv,e,hr⟩:=h;exact⟨cv,e,qB (λ_ _=>Rep.mono hh) (λM _=>sV M) hr⟩
 | undef=>exact h
 | junk=>trivial
 | dead M=>trivial
theorem CO{l:List Nat}{g':Gh}(hh:jP g.h g'.h)(sV:∀M,g'.bk M=g.bk M)(hs:∀M,M∉l→iV g g' M):∀{cs:List Cl}{vs:List Value},RL (ja g) cs vs→RL (ja g') (cs.map (fQ l)) vs|[],[],_=>trivial|[],_::_,h=>h.elim|_::_,[],h=>h.elim|_::_,_::_,h=>⟨zbb hh sV hs h.1,CO hh sV hs h.2⟩
theorem U1{l:List Nat}{g':Gh}(hh:jP g.h g'.h)(sV:∀M,g'.bk M=g.bk M)(hs:∀M,M∉l->iV g g' M){d:D1}{x:Value}(h:Ai g d x):Ai g' (fM l d) x:=by
 cases d with
 | c y=>exact zbb hh sV hs h
 | agg cs=>obtain⟨vs,rfl,hr⟩:=h;exact⟨vs,rfl,CO hh sV hs hr⟩
theorem Ph{l:List Nat}{g':Gh}(hh:jP g.h g'.h)(sV:∀M,g'.bk M=g.bk M)(hs:∀M,M∉l→iV g g' M):∀{cs:List D1}{vs:List Value},RL (Ai g) cs vs→RL (Ai g') (cs.map (fM l)) vs|[],[],_=>trivial|[],_::_,h=>h.elim|_::_,[],h=>h.elim|_::_,_::_,h=>⟨U1 hh sV hs h.1,Ph hh sV hs h.2⟩
theorem zbc{l:List Nat}{g':Gh}(hh:jP g.h g'.h)(sV:∀M,g'.bk M=g.bk M)(hs:∀M,M∉l->iV g g' M){d:DV}{x:Value}(h:qM g d x):qM g' (gB l d) x:=by
 cases d with
 | one y=>exact U1 hh sV hs h
 | tup ds=>obtain⟨vs,rfl,hr⟩:=h;exact⟨vs,rfl,Ph hh sV hs hr⟩
theorem Pi{l:List Nat}{c:Cl}:∀M∈bu (fQ l c),M∈bu c:=by
 intro M hM;cases c with
 | vec K =>
  have hM:M∈bu (match l.contains K with|true=>.dead K|false=>.vec K):=hM;cases h:l.contains K with|true=>rw[h]at hM;exact hM|false=>rw[h]at hM;exact hM
 | vptr K s k q =>
  have hM:M∈bu (match l.contains K with|true=>.dead K|false=>.vptr K s k q):=hM;cases h:l.contains K with|true=>rw[h]at hM;exact hM|false=>rw[h]at hM;exact hM
 | mo K =>
  have hM:M∈bu (match l.contains K with|true=>.dead K|false=>.mo K):=hM;cases h:l.contains K with|true=>rw[h]at hM;exact hM|false=>rw[h]at hM;exact hM
 | _=>exact hM
theorem Pj{l:List Nat}{cs:List Cl}:∀M∈(cs.map (fQ l)).flatMap bu,M∈cs.flatMap bu:=by
 intro M hM;simp only[lD,xq]at hM ⊢;obtain⟨_,⟨c,hc,rfl⟩,hM⟩:=hM;exact⟨c,hc,Pi M hM⟩
theorem Kr{l:List Nat}{d:D1}:∀M∈dC (fM l d),M∈dC d:=by
 cases d with|c y=>exact Pi|agg cs=>exact Pj
theorem Pn{l:List Nat}{d:DV}:∀M∈cu (gB l d),M∈cu d:=by
 cases d with
 | one y=>exact Kr
 | tup ds =>
  intro M hM;simp only[gB,cu,lD,xq]at hM ⊢;obtain⟨_,⟨d,hd,rfl⟩,hM⟩:=hM;exact⟨d,hd,Kr M hM⟩
theorem Po{l:List Nat}{o:AO}:∀M∈dU (eY l o),M∈dU o:=by
 cases o with|box ty cs=>exact Pj|_=>exact λ_ h=>h
theorem bW.regrow(S:bW P nt B w0 h0 g σ a w){L:Nat}{o0 o':AO}{g':Gh}{w':World}{gs:List (Nat×AO)}{row:Option Nat}(hL:lk σ.aB L=some o0)
    (hh:g'.h=g.h) (sV:∀M,g'.bk M=g.bk M) (hs:∀M,M≠L->iV g g' M) (hgs:∀x∈gs,x.2=.gone/\x.1≠L)
    (hg:GrB w w' row) (zl0:∀k,row=some k->gQ g L o0 k)
    (cO:∀k,gQ g' L o' k->gQ g L o0 k\/w.heap.size<=k\/∃T oT,(T,.gone)∈gs/\lk σ.aB T=some oT/\gQ g T oT k)
    (hv:NU P g' w' B L o') (Aa:dU o'=[]) (log:List (Nat×Nat×Nat)) :
    bW P nt B w0 h0 g' ⟨kills (gB [L]) σ.env,(L,o')::(gs++kills (eY [L]) σ.aB),log⟩ a w':=by
  have jZ:∀M x,lk ((L,o')::(gs++kills (eY [L]) σ.aB)) M=some x->(M=L/\x=o')\/x=.gone\/(M≠L/\(M,.gone)∉gs/\∃o,lk σ.aB M=some o/\x=eY [L] o):=by
    intro M x h;rw[aW]at h;split at h;rename_i e;simp only[bQ]at h;exact .inl ⟨e.symm,h.symm⟩
    · rename_i e;rw[gU]at h;cases hgM:lk gs M with
      | some y =>
        rw[hgM]at h;simp only[bQ]at h;subst h;exact .inr (.inl (hgs _ (fH hgM)).1)
      | none =>
        rw[hgM]at h;simp only[]at h;rw[oJ]at h;obtain⟨o,ho,rfl⟩:=Ye.1 h;exact .inr (.inr ⟨λe'=>e e'.symm,QN hgM _,o,ho,rfl⟩)
  have xP:∀M o,lk σ.aB M=some o->∃x,lk ((L,o')::(gs++kills (eY [L]) σ.aB)) M=some x:=by
    intro M o h;rw[aW];split;exact⟨_,rfl⟩
    · rw [gU];cases lk gs M with|some y=>exact⟨y,rfl⟩|none=>rw[oJ,h];exact⟨_,rfl⟩
  have Kt:∀M o,M≠L->gQ g' M (eY [L] o)=gQ g M o:=by
    intro M o jb;have:=hs M jb;funext k;cases o<;>simp[eY,gQ,this.1,this.2.1,this.2.2]
  have hold:∀k,k<w.heap.size->¬gQ g L o0 k->w'.heap[k]? = w.heap[k]?:=λk hk jb=>hg.block k hk (λe=>jb (zl0 k e.symm));have NZ:Hw g.h w':=S.hw.same λk o hk=>hold k (uJ S.hw hk) (λe=>by have:=(S.own L o0 k hL e).2;rw[this]at hk;cases hk);have rG:JR B w w':=⟨⟨hg.os,hg.tape,hg.output,hg.size,λk hk=>hold k (qdt hk S.bs) (λe=>by have:=(S.own L o0 k hL e).1;omega)⟩,hg.drawn⟩;have TW:∀k,w.heap.size<=k->B<=k/\g.h k=none:=λk hk=>by
    refine⟨Gv S.bs hk,?_⟩;cases hh:g.h k with|none=>rfl|some x=>exact absurd (uJ S.hw hh) omY
  refine⟨by rw[hh];exact S.dfr,S.size,?_,?_,?_,?_,by rw[hh];exact NZ,by rw[hh];exact S.le0,by rw[hh];exact S.hn,S.below.trans (.of rG),Gv S.bs hg.size,?_,?_⟩;intro t d ht;rw[oJ]at ht;obtain⟨d',fZ,rfl⟩:=Ye.1 ht;exact zbc (by rw[hh];exact λ_ _ h=>h) sV (λM hM=>hs M (by simpa using hM)) (S.env t d' fZ);intro M x hx;rcases jZ M x hx with⟨rfl,rfl⟩|rfl|⟨jb,hng,o,ho,rfl⟩
  exact hv;trivial
  · have Jp:∀k,gQ g M o k->w'.heap[k]? = w.heap[k]?:=λk hk =>
      hold k (iI (S.obj M o ho) hk) (λe=>jb (S.sep M o k L _ ho hL hk e))
    have hr:=S.obj M o ho;have hsM:=hs M jb;have hle:jP g.h g'.h:=by rw[hh];exact λ_ _ h=>h
    cases o with
    | box ty cs =>
      obtain⟨C,hC,hr⟩:=hr;exact⟨C,by rw[sV M,Jp _ rfl];exact hC,CO (by rw[hh];exact λ_ _ h=>h) sV (λM hM=>hs M (by simpa using hM)) hr⟩
    | fbox cs =>
      obtain⟨C,ty,fr,hC,hr⟩:=hr;exact⟨C,ty,fr,by rw[hh,sV M];exact hC,by rw[hh];exact hr⟩
    | vec e' s' b' m2 lG=>exact O8 hr hsM.2.1 hle Jp
    | fvec s' m2 lG =>
      simp only[eY,NU]at hr ⊢;rw[hsM.2.1,hh];exact hr
    | vv te bb e' s' b' m2 ln2 lG=>exact UN hr hsM hle Jp
    | vt te bb e' s' b' m2 ln2 lG o2=>exact UO hr hsM hle Jp
    | mo kt vt q m2 F =>
      obtain⟨es,clock,hC,hr⟩:=hr;exact⟨es,clock,by rw[hsM.2.1,Jp _ rfl];exact hC,hr⟩
    | gone=>trivial
  intro M x k hx hk;rw[hh];rcases jZ M x hx with⟨rfl,rfl⟩|rfl|⟨jb,hng,o,ho,rfl⟩
  rcases cO k hk with h|h|⟨T,oT,_,hT,h⟩
  exact S.own M o0 k hL h;exact TW k h;exact S.own T oT k hT h;exact hk.elim;rw [Kt M o jb]at hk;exact S.own M o k ho hk;intro M x k M' x' hx xW hk jD;have Qu:∀M o,lk σ.aB M=some o->M≠L->(M,.gone)∉gs->gQ g M o k->gQ g' L o' k->False:=by
    intro M o ho jb hng hk jD;rcases cO k jD with h|h|⟨T,oT,hT,hT2,h⟩
    exact jb (S.sep M o k L _ ho hL hk h);exact absurd (iI (S.obj M o ho) hk) omY;exact hng (by rw[S.sep M o k T oT ho hT2 hk h];exact hT)
  rcases jZ M x hx with⟨rfl,rfl⟩|rfl|⟨jb,hng,o,ho,rfl⟩<;>rcases jZ M' x' xW with⟨rfl,rfl⟩|rfl|⟨zf2,zPy,o2,oh,rfl⟩
  rfl;exact jD.elim;rw [Kt M' o2 zf2]at jD;exact(Qu M' o2 oh zf2 zPy jD hk).elim;exact hk.elim;exact hk.elim;exact hk.elim;rw [Kt M o jb]at hk;exact(Qu M o ho jb hng hk jD).elim;exact jD.elim;rw [Kt M o jb]at hk;rw [Kt M' o2 zf2]at jD;exact S.sep M o k M' o2 ho oh hk jD;intro t d ht M hM;rw[oJ]at ht;obtain⟨d',fZ,rfl⟩:=Ye.1 ht;obtain⟨o,ho⟩:=S.clE t d' fZ M (Pn M hM);exact xP M o ho;intro M x hx N hN;rcases jZ M x hx with⟨rfl,rfl⟩|rfl|⟨jb,hng,o,ho,rfl⟩
  rw[Aa]at hN;simp at hN;simp[dU]at hN;obtain⟨o2,oh⟩:=S.clO M o ho N (Po N hN);exact xP N o2 oh
theorem bW.grow(S:bW P nt B w0 h0 g σ a w){L e s b m m':Nat}{get get':Nat→List PV}{v':Value}{w':World}{dst:Option Nat}(hL:lk σ.aB L=some (.vec e s b m get))(hd:dI nt dst=true)
    (hg:GrB w w' (g.sv L).ownBlock) (Ig:v'.ownBlock=(g.sv L).ownBlock\/v'.ownBlock=some w.heap.size\/v'.ownBlock=none) (hv:Cj P (g.setSv L v') w' B L e s b m' get') (h1:v'.oneCell'=true) (log:List (Nat×Nat×Nat)) :
    bW P nt B w0 h0 (g.setSv L v') ⟨YB dst (.cl (.vec L)) (kills (gB [L]) σ.env),(L,.vec e s b m' get')::kills (eY [L]) σ.aB,log⟩ (a.put dst v') w':=by
  have lW:(g.setSv L v').sv L=v':=by simp[Gh.setSv]
  have S1 := S.regrow (o' := .vec e s b m' get') (g' := g.setSv L v') (gs := []) (row := (g.sv L).ownBlock) hL rfl (fun _ => rfl) JV (fun x hx => by simp at hx) hg (fun k hk => hk)
    (λk hk=>by
      simp only[gQ,lW]at hk;rcases Ig with h|h|h
      exact .inl (by show(g.sv L).ownBlock=some k;rw[<- h];exact hk);rw[h]at hk;simp only[bQ]at hk;exact .inr (.inl omY);rw[h]at hk;cases hk) hv rfl log
  refine S1.put hd (d:=.cl (.vec L)) (v:=v') ⟨lW.symm,h1⟩ ?_ log;intro M hM;simp[cu,dC,bu]at hM;subst hM;exact⟨_,by rw[aW,eX rfl]⟩
def zFh(w:World)(v:Value)(m s:Nat)(news:List Value):Prop :=
 (m=0/\(v=.slice none 0 0\/∃a c,v=.slice (some a) 0 c)/\news=[])\/∃(b o cap:Nat),v=.slice (some ⟨b,o,none⟩) m cap/\news.length=m*s/\(∀j u,news[j]? = some u->w.cell? ⟨b,o+j,none⟩=some u)/\(∀u∈news,u.oneCell'=true)
def U2(g:Gh)(w:World)(v:Value)(m s:Nat)(new:Nat->List PV):Prop :=
 (m=0/\(v=.slice none 0 0\/∃a c,v=.slice (some a) 0 c))\/∃(b o cap:Nat)(news:List Value),v=.slice (some ⟨b,o,none⟩) m cap/\news.length=m*s/\(∀j u,news[j]? = some u->w.cell? ⟨b,o+j,none⟩=some u) /\
  (∀u∈news,u.oneCell'=true)/\∀k,k<m->RL (Rep g.h) (new k) ((news.drop (k*s)).take s)
theorem src_of{b o cap m s:Nat}{C:Array Value}{ty:TypeId}{fr:Nat×Nat}{new:Nat→List PV}{v:Value}(hs:0<s)(hv:v = .slice (some ⟨b,o,none⟩) m cap)(hb:w.heap[b]? = some (.cells C ty fr))
    (hlen:∀k,k<m->(new k).length=s) (Gt:∀k j x,k<m->(new k)[j]? = some x->∃u,C[o+k*s+j]? = some u/\Rep g.h x u):U2 g w v m s new:=by
  refine .inr ⟨b,o,cap,(List.range (m*s)).map λq=>C.getD (o+q) undef,hv,by simp,?_,?_,?_⟩
  all_goals
    have at_:∀q,q<m*s->∃x u,(new (q/s))[q%s]? = some x/\C[o+q]? = some u/\Rep g.h x u:=by
      intro q hq;have hk:q/s<m:=qjO (by rw[qdD];exact hq);have hj:q%s<s:=Nat.mod_lt _ hs;have hx:(new (q/s))[q%s]? = some ((new (q/s))[q%s]'(by rw[hlen _ hk];exact hj)):=Ae _;obtain⟨u,hu,X7⟩:=Gt _ _ _ hk hx;refine⟨_,u,hx,?_,X7⟩;rw[show o+q=o+q/s*s+q%s by have:=jqa q s;rw[qdD]at this;omega];exact hu
  intro j u hj;have hjm:j<m*s:=by have:=(AL.1 hj).1;simpa using this
  obtain⟨x,u',_,hu,_⟩:=at_ j hjm;rw[cell_of hb];simp[hjm]at hj;rw[hu]at hj ⊢;simpa using hj;intro u hu;simp only[xq,NT]at hu;obtain⟨q,hq,rfl⟩:=hu;obtain⟨x,u',_,hu,X7⟩:=at_ q hq;rw[xI,hu];exact X7.one;intro k hk;have hle:k*s+s<=m*s:=by have:=Qz s (qdl hk);rw[Uf]at this;exact this
  refine RL.of_get ?_ ?_;rw[hlen k hk];simp;omega;intro j x u hx hu;have hj:j<s:=by have:=(AL.1 hx).1;rw[hlen k hk]at this;exact this
  obtain⟨u',hu',X7⟩:=Gt k j x hk hx;rw[IL,eX hj,qdg]at hu;have Ym:k*s+j<m*s:=by omega
  simp[Ym]at hu;rw[show o+(k*s+j)=o+k*s+j by omega,hu']at hu;simp only[qdE]at hu;rw[<- hu];exact X7
theorem zgS{m s:Nat}{new:Nat->List PV}{v:Value}(S:bW P nt B w0 h0 g σ a w)(hs:0<s)(h:Rep g.h (.sl m s new) v):U2 g w v m s new:=by
 cases h with|sl0=>exact .inl ⟨rfl,.inl rfl⟩|sle _ _ a c=>exact .inl ⟨rfl,.inr ⟨a,c,rfl⟩⟩|sl _ _ _ _ b o cap C ty fr vs hb ku hlen hc hr=>exact src_of hs rfl (S.hw.fz hb) hlen λk j x hk hj=>⟨vs k j,hc k j x hk hj,hr k j x hk hj⟩
theorem zne{L e s b m:Nat}{new:Nat->List PV}(h:Cj P g w B L e s b m new):U2 g w (g.sv L) m s new:=by
 by_cases hm:m=0;subst hm;obtain⟨hs,_,xs,hx,_⟩:=h;rcases hx.2 with⟨h1,_⟩|⟨k,cap,cur,h1,_⟩
 exact .inl ⟨rfl,.inl h1⟩;have hx0:xs=[]:=by have:=hx.1;simpa using this
 exact .inr ⟨k,0,cap,[],h1,by simp,λj u hj=>by simp at hj,λu hu=>by simp at hu,λk hk=>absurd hk omY⟩;obtain⟨k,C,_,⟨cap,lW⟩,hC,_,_,_⟩:=uK h (show 0<m by omega);refine src_of h.1.2 lW hC (λq hq=>?_) (λq j x hq hj=>?_);obtain⟨_,_,_,_,_,_,h6,_⟩:=uK h hq;exact h6;obtain⟨k',C',jD,⟨z8R,zwL⟩,X8,_,_,h7⟩:=uK h hq;rw[lW]at zwL;simp only[Value.slice.injEq,bQ,Addr.mk.injEq]at zwL;obtain⟨⟨rfl,_⟩,_⟩:=zwL;rw[hC]at X8;simp only[bQ,Obj.cells.injEq]at X8;obtain⟨rfl,_⟩:=X8;rw[Oa];exact h7 j x hj
end
end Go.Pm
