/- Part 6 of what the proof rests on: a machine that runs functions of the program on pure values, proved sound; the functions that the law reaches, and what they compute. -/
import Derived.Test.YtedhjaaikeakoaaDoorQ5
import Derived.Shelf.SlIterI.Nil
import Derived.Shelf.SortM.Plain
import Derived.Shelf.SortM.SortNone
import Derived.Ground.GgzProg
import Derived.Ground.SlgmProg
import Derived.Test.YtedhjaaikeakoaaDoorProg
import Derived.Tactics
import Derived.Tactics2
import Derived.Recover
import Derived.RecoverIn
import Derived.TacticsInMore
import Derived.Test.YtedhjaaikeakoaaDoorTie
import Derived.ProofKit
import Derived.LaidMore
import Derived.OpenShut
import Derived.Stop.Joined
import Derived.Test.YtedhjaaikeakoaaDoorCards
import Derived.WalkKit
set_option linter.all false
/-
  DERIVED: THE SHELF's CONTRACTS AT THIS DUMP,IN PLAIN WORDS (tools/lay-plain.mjs out of 'YtedhjaaikeakoaaDoorPmLk.lean',which tools/lay-shelf.mjs wrote): THE SAME DECLARATIONS UNDER THE SAME NAMES: 'import','namespace','open','def','theorem' AND NOTHING ELSE: no command of the shelf's: FOR A HAND-IN. Each laying: the table of numbers ('.._ren') and one theorem,a field a fact of the dump's own or the kernel's comparison;each contract: ONE APPLICATION.
-/
namespace Go.Proofs
open Go.Shelf
def Tryd.keysA_ren:Go.Shelf.Ren:=⟨fun | 7=>103 | 10=>117 | n=>n,fun | 23=>103 | 26=>3 | 3=>4 | 28=>152 | 0=>0 | 27=>151 | 33=>169 | 4=>4 | n=>n,fun | n=>n⟩
theorem Tryd.keysA : Go.Proofs.SlLaysZI.n7 Tryd.prog Tryd.keysA_ren := {
  mixed:=by kernel_rfl
  f7:=⟨Tryd.f103.name,by decide,Tryd.func103.trans (congrArg some (by kernel_rfl))⟩
  f10:=⟨Tryd.f117.name,by decide,Tryd.func117.trans (congrArg some (by kernel_rfl))⟩
  t0:=Tryd.underlying0
  a0:=Tryd.isAgg0
  z0:=Tryd.sizeOf0
  v0:=Tryd.zeroValue0
  t4:=Tryd.underlying4
  a4:=Tryd.isAgg4
  z4:=Tryd.sizeOf4
  v4:=Tryd.zeroValue4
  t23:=Tryd.underlying103
  a23:=Tryd.isAgg103
  z23:=Tryd.sizeOf103
  v23:=Tryd.zeroValue103
  t26:=Tryd.underlying3
  a26:=Tryd.isAgg3
  z26:=Tryd.sizeOf3
  v26:=Tryd.zeroValue3
  t27:=Tryd.underlying151
  a27:=Tryd.isAgg151
  z27:=Tryd.sizeOf151
  v27:=Tryd.zeroValue151
  t28:=Tryd.underlying152
  a28:=Tryd.isAgg152
  z28:=Tryd.sizeOf152
  v28:=Tryd.zeroValue152
  t33:=Tryd.underlying169
  a33:=Tryd.isAgg169
  z33:=Tryd.sizeOf169
  v33:=Tryd.zeroValue169 }
def Tryd.sortedA_ren:Go.Shelf.Ren:=⟨fun | 6=>102 | 8=>115 | 9=>116 | 11=>129 | 13=>113 | 12=>130 | 23=>127 | 24=>128 | 14=>136 | 15=>137 | 16=>138 | 17=>139 | 18=>140 | 19=>141 | 20=>142 | 21=>143 | 22=>144 | 25=>146 | 26=>132 | 27=>133 | 28=>147 | 29=>148 | 30=>114 | 31=>149 | n=>n,fun | 26=>3 | 28=>152 | 24=>27 | 0=>0 | 3=>3 | 37=>168 | 48=>182 | 50=>184 | 4=>4 | 40=>175 | 39=>174 | 45=>179 | 5=>5 | 9=>9 | 51=>187 | 55=>191 | 57=>199 | 58=>200 | 33=>169 | n=>n,fun | n=>n⟩
theorem Tryd.sortedA : Go.Proofs.SlLaysZI.n6 Tryd.prog Tryd.sortedA_ren := {
  mixed:=by kernel_rfl
  f6:=⟨Tryd.f102.name,by decide,Tryd.func102.trans (congrArg some (by kernel_rfl))⟩
  f8:=⟨Tryd.f115.name,by decide,Tryd.func115.trans (congrArg some (by kernel_rfl))⟩
  f11:=⟨Tryd.f129.name,by decide,Tryd.func129.trans (congrArg some (by kernel_rfl))⟩
  t0:=Tryd.underlying0
  a0:=Tryd.isAgg0
  z0:=Tryd.sizeOf0
  v0:=Tryd.zeroValue0
  t24:=Tryd.underlying27
  a24:=Tryd.isAgg27
  z24:=Tryd.sizeOf27
  v24:=Tryd.zeroValue27
  t26:=Tryd.underlying3
  a26:=Tryd.isAgg3
  z26:=Tryd.sizeOf3
  v26:=Tryd.zeroValue3
  t28:=Tryd.underlying152
  a28:=Tryd.isAgg152
  z28:=Tryd.sizeOf152
  v28:=Tryd.zeroValue152
  i26:=by kernel_rfl }
def Tryd.sortA_ren:Go.Shelf.Ren:=⟨fun | 5=>116 | 8=>113 | 7=>130 | 19=>127 | 20=>128 | 10=>136 | 11=>137 | 12=>138 | 13=>139 | 14=>140 | 15=>141 | 16=>142 | 17=>143 | 18=>144 | 30=>146 | 31=>132 | 32=>133 | 33=>147 | 34=>148 | 35=>114 | 40=>149 | n=>n,fun | 23=>27 | 25=>3 | 3=>3 | 32=>168 | 22=>27 | 0=>0 | 44=>182 | 46=>184 | 4=>4 | 36=>175 | 35=>174 | 41=>179 | 5=>5 | 9=>9 | 53=>187 | 57=>191 | 63=>199 | 64=>200 | n=>n,fun | n=>n⟩
theorem Tryd.sortA : Go.Proofs.SlLaysM.n5 Tryd.prog Tryd.sortA_ren := {
  mixed:=by kernel_rfl
  f5:=⟨Tryd.f116.name,by decide,Tryd.func116.trans (congrArg some (by kernel_rfl))⟩
  f7:=⟨Tryd.f130.name,by decide,Tryd.func130.trans (congrArg some (by kernel_rfl))⟩
  f8:=Tryd.func113.trans (congrArg some (by kernel_rfl))
  f10:=⟨Tryd.f136.name,by decide,Tryd.func136.trans (congrArg some (by kernel_rfl))⟩
  f11:=⟨Tryd.f137.name,by decide,Tryd.func137.trans (congrArg some (by kernel_rfl))⟩
  f12:=⟨Tryd.f138.name,by decide,Tryd.func138.trans (congrArg some (by kernel_rfl))⟩
  f13:=⟨Tryd.f139.name,by decide,Tryd.func139.trans (congrArg some (by kernel_rfl))⟩
  f14:=⟨Tryd.f140.name,by decide,Tryd.func140.trans (congrArg some (by kernel_rfl))⟩
  f15:=⟨Tryd.f141.name,by decide,Tryd.func141.trans (congrArg some (by kernel_rfl))⟩
  f16:=⟨Tryd.f142.name,by decide,Tryd.func142.trans (congrArg some (by kernel_rfl))⟩
  f17:=⟨Tryd.f143.name,by decide,Tryd.func143.trans (congrArg some (by kernel_rfl))⟩
  f18:=⟨Tryd.f144.name,by decide,Tryd.func144.trans (congrArg some (by kernel_rfl))⟩
  f19:=Tryd.func127.trans (congrArg some (by kernel_rfl))
  f20:=Tryd.func128.trans (congrArg some (by kernel_rfl))
  f30:=⟨Tryd.f146.name,by decide,Tryd.func146.trans (congrArg some (by kernel_rfl))⟩
  f31:=Tryd.func132.trans (congrArg some (by kernel_rfl))
  f32:=Tryd.func133.trans (congrArg some (by kernel_rfl))
  f33:=⟨Tryd.f147.name,by decide,Tryd.func147.trans (congrArg some (by kernel_rfl))⟩
  f34:=⟨Tryd.f148.name,by decide,Tryd.func148.trans (congrArg some (by kernel_rfl))⟩
  f35:=⟨Tryd.f114.name,by decide,Tryd.func114.trans (congrArg some (by kernel_rfl))⟩
  f40:=⟨Tryd.f149.name,by decide,Tryd.func149.trans (congrArg some (by kernel_rfl))⟩
  t0:=Tryd.underlying0
  a0:=Tryd.isAgg0
  z0:=Tryd.sizeOf0
  v0:=Tryd.zeroValue0
  t3:=Tryd.underlying3
  a3:=Tryd.isAgg3
  z3:=Tryd.sizeOf3
  v3:=Tryd.zeroValue3
  t4:=Tryd.underlying4
  a4:=Tryd.isAgg4
  z4:=Tryd.sizeOf4
  v4:=Tryd.zeroValue4
  t5:=Tryd.underlying5
  a5:=Tryd.isAgg5
  z5:=Tryd.sizeOf5
  v5:=Tryd.zeroValue5
  t9:=Tryd.underlying9
  a9:=Tryd.isAgg9
  z9:=Tryd.sizeOf9
  v9:=Tryd.zeroValue9
  t22:=Tryd.underlying27
  a22:=Tryd.isAgg27
  z22:=Tryd.sizeOf27
  v22:=Tryd.zeroValue27
  t23:=Tryd.underlying27
  a23:=Tryd.isAgg27
  z23:=Tryd.sizeOf27
  v23:=Tryd.zeroValue27
  t25:=Tryd.underlying3
  a25:=Tryd.isAgg3
  z25:=Tryd.sizeOf3
  v25:=Tryd.zeroValue3
  t32:=Tryd.underlying168
  a32:=Tryd.isAgg168
  z32:=Tryd.sizeOf168
  v32:=Tryd.zeroValue168
  t35:=Tryd.underlying174
  a35:=Tryd.isAgg174
  z35:=Tryd.sizeOf174
  v35:=Tryd.zeroValue174
  t36:=Tryd.underlying175
  a36:=Tryd.isAgg175
  z36:=Tryd.sizeOf175
  v36:=Tryd.zeroValue175
  t41:=Tryd.underlying179
  a41:=Tryd.isAgg179
  z41:=Tryd.sizeOf179
  v41:=Tryd.zeroValue179
  t44:=Tryd.underlying182
  a44:=Tryd.isAgg182
  z44:=Tryd.sizeOf182
  v44:=Tryd.zeroValue182
  t46:=Tryd.underlying184
  a46:=Tryd.isAgg184
  z46:=Tryd.sizeOf184
  v46:=Tryd.zeroValue184
  t53:=Tryd.underlying187
  a53:=Tryd.isAgg187
  z53:=Tryd.sizeOf187
  v53:=Tryd.zeroValue187
  t57:=Tryd.underlying191
  a57:=Tryd.isAgg191
  z57:=Tryd.sizeOf191
  v57:=Tryd.zeroValue191
  t63:=Tryd.underlying199
  a63:=Tryd.isAgg199
  z63:=Tryd.sizeOf199
  v63:=Tryd.zeroValue199
  t64:=Tryd.underlying200
  a64:=Tryd.isAgg200
  z64:=Tryd.sizeOf200
  v64:=Tryd.zeroValue200 }
end Go.Proofs
namespace Go.Pm
open Go.RowKit Go.Maps Go.Sort Go.Shelf Go.Proofs
set_option maxRecDepth 100000

theorem zlW {F : List Int → Option (List Int)} : ∀ (f : Nat) (i : Int) (n : Nat) (l : List Int), zvJ F f i n = some l → l.length = n ∧ (∀ x ∈ l, F [x] ≠ none ∧ i ≤ x ∧ x < i + f) ∧ l.Pairwise (· < ·)
  | _,_,0,l,h=>by simp [zvJ] at h;subst h;exact ⟨rfl,fun x hx=>by simp at hx,List.Pairwise.nil⟩
  | 0,_,n+1,l,h=>by simp [zvJ] at h
  | f+1,i,n+1,l,h=>by
    simp only [zvJ] at h
    split at h
    · rename_i v hv
      split at h
      · rename_i r hr
        simp only [Option.some.injEq] at h;subst h
        obtain ⟨h1,h2,h3⟩:=zlW f (i+1) n r hr
        refine ⟨by simp [h1],fun x hx=>?_,List.pairwise_cons.2 ⟨fun x hx=>by have:=h2 x hx;omega,h3⟩⟩
        rcases List.mem_cons.1 hx with rfl | hx
        · exact ⟨by rw [hv];simp,by omega,by omega⟩
        · have:=h2 x hx;exact ⟨this.1,by omega,by omega⟩
      · cases h
    · obtain ⟨h1, h2, h3⟩ := zlW f (i + 1) (n + 1) l h
      exact ⟨h1,fun x hx=>by have:=h2 x hx;exact ⟨this.1,by omega,by omega⟩,h3⟩
theorem zlX {α : Type} [DecidableEq α] : ∀ {l m : List α}, l.Nodup → (∀ x ∈ l, x ∈ m) → m.length ≤ l.length → l.Perm m
  | [],m,_,_,h=>by
    have:m=[]:=List.eq_nil_of_length_eq_zero (by simpa using h)
    subst this;exact .refl _
  | a :: l,m,hn,hs,h=>by
    obtain ⟨h1,h2⟩:=List.nodup_cons.1 hn
    have ha:=hs a List.mem_cons_self
    have hp:=List.perm_cons_erase ha
    refine (List.Perm.cons a (zlX h2 (fun x hx=>?_) ?_)).trans hp.symm
    · exact (List.mem_erase_of_ne (fun e=>h1 (by rw [← e];exact hx))).2 (hs x (List.mem_cons_of_mem _ hx))
    · have := hp.length_eq
      simp at this h
      omega

theorem zB8:zoX Tryd.prog 103 (.keys 117):=fun w mb=>by
 refine ⟨⟨_,rfl,rfl,by kernel_rfl⟩,?_⟩
 have c:CallsIn Fence.wide 5 Tryd.prog 103 #[.map (some mb)] w fun e w'=>e=.returned (.func (.func 117) #[] #[.pointer (some ⟨w.heap.size,0,none⟩)])∧w'=w.alloc (.cells #[.map (some mb)] 103):=AnyZI.keys_in Tryd.keysA Fence.wide 5 trivial rfl (some mb) w
 refine ((callsIn_wide (n:=5)).1 c).mono ?_
 rintro e w' ⟨rfl,rfl⟩
 exact ⟨rfl,_,rfl⟩
theorem sortsA (m:Nat):AnyZI.SortsIn Tryd.prog Tryd.sortedA_ren Fence.wide m :=
  ⟨fun blk off cap ss W hH hblk hsz=>callsIn_wide.2 (AnyM.slices_Sort_int Tryd.sortA blk off cap ss W hH hblk hsz),
   fun p cap W=>callsIn_wide.2 (AnyM.slices_Sort_int_none Tryd.sortA p cap W)⟩

def rdN:Value→Option (DataW Unit×List MemPlace):=fun _=>some (.nil,[])
theorem zvA:zoX Tryd.prog 102 (.sorted 117):=fun w h k mb C ty fr es clock vt q n F hw hk hC hb hE hm hn hky=>by
 refine ⟨⟨_,rfl,rfl,by kernel_rfl⟩,?_⟩
 obtain ⟨en,M⟩:=hm
 have E:=zgW hE
 have hq1:q.1=false:=by
  have e:=E.kag
  rw [show zeR Tryd.prog 3=some false by kernel_rfl] at e
  exact (Option.some.inj e).symm
 have hq2:q.2.1=1:=by
  have e:=E.key
  rw [show zdJ Tryd.prog 8 3=some 1 by kernel_rfl] at e
  exact (Option.some.inj e).symm
 obtain ⟨l,hl⟩:=Option.isSome_iff_exists.1 hky
 have hll:zvK F n=l:=by unfold zvK;rw [hl];rfl
 obtain ⟨l1,l2,l3⟩:=zlW _ _ _ _ hl
 rw [hll]
 have one:∀ x∈en,x.1=[x.1.headD 0]:=fun x hx=>by
  have:=(M.len x hx).1
  rw [hq2] at this
  match x.1,this with
  | [a],_=>rfl
 have hkeys:es.toList.map (·.key)=(en.map fun x=>x.1.headD 0).map encZ:=by
  have:=congrArg (List.map Prod.fst) M.ents
  simp only [List.map_map] at this ⊢
  refine (show es.toList.map (·.key)=_ from this).trans (List.map_congr_left fun x hx=>?_)
  show zbK q.1 x.1=encZ (x.1.headD 0)
  rw [hq1];rfl
 have hkn:(en.map fun x=>x.1.headD 0).Nodup:=by
  have:(en.map (·.1))=(en.map fun x=>x.1.headD 0).map fun a=>[a]:=by
   rw [List.map_map];exact List.map_congr_left fun x hx=>one x hx
  have hd:=M.nodup
  rw [this] at hd
  exact (List.pairwise_map.1 hd).imp fun h e=>h (by rw [e])
 have hperm:l.Perm (en.map fun x=>x.1.headD 0):=by
  refine zlX (l3.imp fun h=>Int.ne_of_lt h) (fun x hx=>?_) (by rw [List.length_map,← M.size,l1];exact Nat.le_refl _)
  have h1:=(l2 x hx).1
  rw [M.find [x] (by rw [hq2];rfl)] at h1
  by_cases hex:∃ y∈en,y.1=[x]
  ·obtain ⟨y, hy, e⟩ := hex
   exact List.mem_map.2 ⟨y,hy,by rw [e];rfl⟩
  ·exact absurd (zgv fun y hy e=>hex ⟨y,hy,e⟩) h1
 have hread:∀ x∈es.toList,∃ a:Int,x.key=encZ a∧keyOf Tryd.prog 3 x.key=some (.int .i64 a):=fun x hx=>by
  have hm:x.key∈es.toList.map (·.key):=List.mem_map.2 ⟨x,hx,rfl⟩
  rw [hkeys] at hm
  obtain ⟨a,ha,e⟩:=List.mem_map.1 hm
  have hb:=(l2 a (hperm.mem_iff.2 ha)).2
  refine ⟨a,e.symm,?_⟩
  rw [← e]
  have hu:Tryd.prog.underlying 3=some (.int .i64):=Tryd.underlying3
  have hwf:(Lit.int .i64 a).wf=true:=by
   simp only [Lit.wf,Bool.and_eq_true,decide_eq_true_eq]
   have e1:IntKind.i64.min = -9223372036854775808:=by decide
   have e2:IntKind.i64.max=9223372036854775807:=by decide
   rw [e1,e2]
   have:=hb.2
   omega
  simp [keyOf,mapKey,hu,hwf]
 have hsize:es.size=n:=by
  have:=congrArg List.length M.ents
  simp at this
  rw [this,M.size]
 have hst:MapKept.Stamped es clock:=⟨M.born,M.bornN,by rw [hkeys];exact List.pairwise_map.2 (hkn.imp fun h e=>h (encZ_inj e))⟩
 have hown:w.ownsMap Tryd.prog 3 rdN mb n (.map ((es.toList.map (WideElems.rg Tryd.prog 3 rdN)).foldr DataW.insert [])) :=
  ⟨es,clock,hb,⟨by rw [hsize];exact Nat.le_trans hn (by decide),hst,fun x hx=>by
   obtain ⟨a,e1,e2⟩:=hread x hx
   exact ⟨(.int .i64 a,.nil),by simp only [WideElems.rd,e2,rdN,Option.bind_some,Option.map_some]⟩⟩,by omega,rfl⟩
 have hik:(intKeys (.map ((es.toList.map (WideElems.rg Tryd.prog 3 rdN)).foldr DataW.insert []))).Perm l:=by
  show (((es.toList.map (WideElems.rg Tryd.prog 3 rdN)).foldr DataW.insert []).map fun p=>intOf p.1).Perm l
  refine ((WideShapes.sorted_perm _).map _).trans (List.Perm.trans (List.Perm.of_eq ?_) hperm.symm)
  rw [List.map_map]
  have e:(en.map fun x=>x.1.headD 0)=es.toList.map fun x=>intOf ((keyOf Tryd.prog 3 x.key).getD (.bool false)):=by
   have h1:(en.map fun x=>x.1.headD 0)=((en.map fun x=>x.1.headD 0).map encZ).map fun v=>match v with | .int _ a=>a | _=>0:=by
    rw [List.map_map];exact (List.map_id _).symm
   rw [h1,← hkeys,List.map_map]
   refine List.map_congr_left fun x hx=>?_
   obtain ⟨a,e1,e2⟩:=hread x hx
   simp only [Function.comp,e2]
   rw [e1];rfl
  rw [e]
  refine List.map_congr_left fun x hx=>?_
  obtain ⟨a,e1,e2⟩:=hread x hx
  simp only [Function.comp,WideElems.rg,WideElems.rd,e2,rdN,Option.bind_some,Option.map_some,Option.getD_some]
 have hsz:Maps.size (DataW.map ((es.toList.map (WideElems.rg Tryd.prog 3 rdN)).foldr DataW.insert []):DataW Unit)=n:=by
  show List.length _=n
  rw [(WideShapes.sorted_perm _).length_eq];simp [hsize]
 have hlt:k < w.heap.size:=hw.lt hk
 have hcell:w.cell? ⟨k,0,none⟩=some (.map (some mb)):=by
  have:=hw.fz hk
  simp [World.cell?,this,hC]
 have hseq:SeqGives Fence.wide 2 Tryd.prog 117 #[.pointer (some ⟨k,0,none⟩)] encZ (fun ss=>ss.Perm (intKeys _)) (Maps.size _) w :=
  AnyZI.keys_gives (ρ:=Tryd.keysA_ren) { Tryd.keysA with } Fence.wide _ trivial rfl (by omega) k mb n _ w hlt hcell hown
 have cS:=AnyZI.sorted_in Tryd.sortedA Fence.wide 5 trivial trivial trivial trivial rfl (by omega) (sortsA _) (enters_of Tryd.func116 (by kernel_rfl) rfl) 117 #[.pointer (some ⟨k,0,none⟩)] trivial (enters_of Tryd.func117 (by kernel_rfl) rfl) _ _ (by rw [hsz];exact Nat.le_trans hn (by decide)) (by rw [hsz];omega) _ hseq
 change CallsIn _ _ Tryd.prog 102 _ _ _ at cS
 refine ((callsIn_wide (n:=5)).1 cS).mono ?_
 rintro e w' ⟨v,ss,rfl,hS,hrow,_,hbel⟩
 refine ⟨v,rfl,?_,⟨hbel,Nat.zero_le _⟩⟩
 have hsl:ss.mergeSort (fun x y=>decide (x≤y))=l:=by
  rw [show ss.mergeSort (fun x y=>decide (x≤y))=l.mergeSort leI from mergeSort_of_perm_i (hS.trans hik)]
  exact List.mergeSort_of_pairwise (l3.imp fun h=>by simp only [leI,decide_eq_true_eq];exact Int.le_of_lt h)
 have hlen:ss.length=n:=by rw [(hS.trans hik).length_eq,l1]
 rw [hsl,hlen] at hrow
 exact hrow
end Go.Pm
namespace Go.Proofs
open Go Go.Pm
set_option maxRecDepth 100000
set_option linter.unusedVariables false
attribute [local irreducible] Go.Pm.vcFun Go.Pm.vc Go.Pm.vcIter
abbrev zC9:OwnK:=.sorted 117
theorem zK3:zoX Tryd.prog 102 zC9:=zvA
abbrev zDa:OwnK:=.keys 117
theorem zK4:zoX Tryd.prog 103 zDa:=zB8
structure Rec69 where
  S:web→Int→((Sl (Sl Int))×web)
  P:web→Int→Bool
class Slf69 where
  r:Rec69
section
variable [Slf69]
def zys : MK
  | [.box 105 [.p (.int .i64 b0_Net_Nodes),.p (.sl b0_Net_Ties_n b0_Net_Ties_s b0_Net_Ties_g),.mo 3 4 b0_out_q b0_out_n b0_out_F],.d (.one (.int .i64 b1))]=>some (IsE zai 4 b0_Net_Ties_s b0_Net_Ties_g∧b0_out_q=(false,1,false,[none])∧Slf69.r.P (⟨(⟨b0_Net_Nodes,(⟨b0_Net_Ties_n,zat b0_Net_Ties_g⟩:(Sl Tie))⟩:Net),(⟨b0_out_n,b0_out_F⟩:Mp)⟩:web) b1=true,[.one (.sl (((Slf69.r.S (⟨(⟨b0_Net_Nodes,(⟨b0_Net_Ties_n,zat b0_Net_Ties_g⟩:(Sl Tie))⟩:Net),(⟨b0_out_n,b0_out_F⟩:Mp)⟩:web) b1).1).len) 1 (fun i=>zck (((Slf69.r.S (⟨(⟨b0_Net_Nodes,(⟨b0_Net_Ties_n,zat b0_Net_Ties_g⟩:(Sl Tie))⟩:Net),(⟨b0_out_n,b0_out_F⟩:Mp)⟩:web) b1).1).get i)))],[.box 105 [.p (.int .i64 (((Slf69.r.S (⟨(⟨b0_Net_Nodes,(⟨b0_Net_Ties_n,zat b0_Net_Ties_g⟩:(Sl Tie))⟩:Net),(⟨b0_out_n,b0_out_F⟩:Mp)⟩:web) b1).2).Net.Nodes)),.p (.sl (((Slf69.r.S (⟨(⟨b0_Net_Nodes,(⟨b0_Net_Ties_n,zat b0_Net_Ties_g⟩:(Sl Tie))⟩:Net),(⟨b0_out_n,b0_out_F⟩:Mp)⟩:web) b1).2).Net.Ties.len) 4 (fun i=>zai (((Slf69.r.S (⟨(⟨b0_Net_Nodes,(⟨b0_Net_Ties_n,zat b0_Net_Ties_g⟩:(Sl Tie))⟩:Net),(⟨b0_out_n,b0_out_F⟩:Mp)⟩:web) b1).2).Net.Ties.get i))),.mo 3 4 (false,1,false,[none]) ((((Slf69.r.S (⟨(⟨b0_Net_Nodes,(⟨b0_Net_Ties_n,zat b0_Net_Ties_g⟩:(Sl Tie))⟩:Net),(⟨b0_out_n,b0_out_F⟩:Mp)⟩:web) b1).2).out).n) ((((Slf69.r.S (⟨(⟨b0_Net_Nodes,(⟨b0_Net_Ties_n,zat b0_Net_Ties_g⟩:(Sl Tie))⟩:Net),(⟨b0_out_n,b0_out_F⟩:Mp)⟩:web) b1).2).out).F)],.d (.one (.int .i64 b1))])
  | _=>none
abbrev T69:Tabs:=(((((Tabs.nil.addF 88 zxA).addF 89 zB7).addO 102 zC9).addO 103 zDa).addM 69 zys)
theorem zK5 (hself:zjI Tryd.prog 69 zys):TabsOk Tryd.prog T69:=(((((TabsOk.nil.addF zKH).addF zL6).addO zK3).addO zK4).addM hself)
abbrev zB9:Ctrs:=csm T69 (fun _ _=>[]) (fun _=>false)
def zfB:Ann:=⟨57,[(0,zK [0,1] [0,12288]),(1,zK [0,1,10] [0,12288]),(2,zK [0,4] [0,17,12288]),(3,zK [0,1,19] [0,12288]),(4,zK [0,4] [0,12288]),(5,zK [0,1,5] [0,12288]),(6,zK [0,1,5,21,22,23] [0,12288]),(7,zK [0,1,5,21,22,23,24] [0,47,12288]),(8,zK [0,1,5,7,21,22,23] [0,7,47,12288]),(9,zK [0,1,5,7,21,22,23,34] [0,7,47,12288]),(10,zK [0,1,5,7,21,22,23] [0,7,47,12288]),(11,zK [0,1,5,7,21,22,23] [0,7,47,12288]),(12,zK [0,1,5,21,22,23] [0,47,12288]),(13,zK [0,1,5,21,22,23] [0,47,12288]),(14,zK [0,4] [0,47,12288])],
 [(7,⟨[0,1,5,21,22,23],[0,47,12288],[(5,47,27,fun _=>zck default)],[],[],[],[]⟩)],
 [],
 [],[]⟩
def zgg (w:web) (left:Int) (zaI:Int) (zba:Int) (zgh:Nat) (zcL:Nat→List PV) (zgi:Nat) (zcM:Nat→List PV) (zae:Nat) (zaa:(List Int→Option (List Int))):St:=⟨[(0,.one (.c (.ptr 0 0))),(1,.one (.c (.p (.int .i64 left)))),(5,.one (.c (.vec 47))),(21,.one (.c (.p (.sl ((s89 w).len) 5 (fun i=>zad ((s89 w).get i)))))),(22,.one (.c (.p (.int .i64 ((s89 w).len:Int))))),(23,.one (.c (.p (.int .i64 zaI))))],[(0,.box 105 [.p (.int .i64 zba),.p (.sl zgh 4 zcL),.mo 12288]),(47,.vec 27 1 24 zgi zcM),(12288,.mo 3 4 (false,1,false,[none]) zae zaa)],[]⟩
def zic (K:List PA×List XA→Prop) (w:web) (left:Int) (zaI:Int) (zba:Int) (zgh:Nat) (zcL:Nat→List PV) (zgi:Nat) (zcM:Nat→List PV) (zae:Nat) (zaa:(List Int→Option (List Int))):Prop:=vc Tryd.prog zB9 zfB (cdF Tryd.f69 [1,1,1,1,0,1,0]) (zak 0 (sqK Tryd.prog zB9 zfB (cdF Tryd.f69 [1,1,1,1,1]) (zmn Tryd.prog Tryd.f69 [.box 105 [.p (.int .i64 w.Net.Nodes),.p (.sl w.Net.Ties.len 4 (fun i=>zai (w.Net.Ties.get i))),.mo 3 4 (false,1,false,[none]) w.out.n w.out.F],.d (.one (.int .i64 left))] (fun a b=>K (a,b))))) (zgg w left zaI zba zgh zcL zgi zcM zae zaa)
theorem zCa (w : web) (left : Int) (K : List PA × List XA → Prop) :
  zkY Tryd.prog zB9 zfB 69 [.box 105 [.p (.int .i64 w.Net.Nodes),.p (.sl w.Net.Ties.len 4 (fun i=>zai (w.Net.Ties.get i))),.mo 3 4 (false,1,false,[none]) w.out.n w.out.F],.d (.one (.int .i64 left))] (fun a b=>K (a,b)) =
  ((IsE zai 4 4 (fun i=>zai (w.Net.Ties.get i))∧((false,1,false,[none]):MQ)=(false,1,false,[none])∧(p88 w=true)) ∧
 (zbR (!(s88 w))
 (((w.out.n≤1000000∧(zvJ w.out.F 9223372036854775808 0 w.out.n).isSome=true)) ∧
 (K ([.one (.sl 1 1 (fun _=>(zck (⟨w.out.n,(fun i=>(zvK w.out.F w.out.n).getD i 0)⟩:(Sl Int)))))],[.box 105 [.p (.int .i64 w.Net.Nodes),.p (.sl w.Net.Ties.len 4 (fun i=>zai (w.Net.Ties.get i))),.mo 3 4 (false,1,false,[none]) w.out.n w.out.F],.d (.one (.int .i64 left))])))
 (zbR (left == (0:Int))
 (K ([.one (.nils)],[.box 105 [.p (.int .i64 w.Net.Nodes),.p (.sl w.Net.Ties.len 4 (fun i=>zai (w.Net.Ties.get i))),.mo 3 4 (false,1,false,[none]) w.out.n w.out.F],.d (.one (.int .i64 left))]))
 (((∀ i,sc2 ((fun i=>zad ((s89 w).get i)) i)=true)∧IsE zai 4 4 (fun i=>zai (w.Net.Ties.get i))∧((false,1,false,[none]):MQ)=(false,1,false,[none])∧(p89 w=true)) ∧
 (zic K w left (0:Int) w.Net.Nodes w.Net.Ties.len (fun i=>zai (w.Net.Ties.get i)) 0 (fun i=>zck ((fun _=>default) i)) w.out.n w.out.F))))):=by kernel_rfl
def zm2 (K:List PA×List XA→Prop) (X0:St→Prop) (w:web) (left:Int) (zaI:Int) (zba:Int) (zbc:(Sl Tie)) (zbF:(Sl (Sl Int))) (zae:Nat) (zaa:(List Int→Option (List Int))):Prop :=
  (zbR (decide (zaI < ((s89 w).len : Int)))
 (((0≤zaI∧zaI < ((s89 w).len:Int))) ∧
 (zbR ((zuW (zaa [((s89 w).get zaI.toNat).Use.Tie]) 0) != 0)
 (X0 (zgg w left (w64 (zaI+(1:Int))) zba zbc.len (fun i=>zai (zbc.get i)) zbF.len (fun i=>zck (zbF.get i)) zae zaa))
 ((IsE zai 4 4 (fun i=>zai (zbc.get i))∧((false,1,false,[none]):MQ)=(false,1,false,[none])∧(Slf69.r.P (⟨(⟨zba,zbc⟩:Net),(⟨(addN (zaa [((s89 w).get zaI.toNat).Use.Tie]) zae),(zdQ [((s89 w).get zaI.toNat).Use.Tie] [1] zaa)⟩:Mp)⟩:web) (w64 (left - (1:Int)))=true)) ∧
 ((((zbF.len+((Slf69.r.S (⟨(⟨zba,zbc⟩:Net),(⟨(addN (zaa [((s89 w).get zaI.toNat).Use.Tie]) zae),(zdQ [((s89 w).get zaI.toNat).Use.Tie] [1] zaa)⟩:Mp)⟩:web) (w64 (left - (1:Int)))).1).len) * 24≤140737488355328∧zbF.len+((Slf69.r.S (⟨(⟨zba,zbc⟩:Net),(⟨(addN (zaa [((s89 w).get zaI.toNat).Use.Tie]) zae),(zdQ [((s89 w).get zaI.toNat).Use.Tie] [1] zaa)⟩:Mp)⟩:web) (w64 (left - (1:Int)))).1).len≤9223372036854775807)) ∧
 (X0 (zgg w left (w64 (zaI+(1:Int))) (((Slf69.r.S (⟨(⟨zba,zbc⟩:Net),(⟨(addN (zaa [((s89 w).get zaI.toNat).Use.Tie]) zae),(zdQ [((s89 w).get zaI.toNat).Use.Tie] [1] zaa)⟩:Mp)⟩:web) (w64 (left - (1:Int)))).2).Net.Nodes) (((Slf69.r.S (⟨(⟨zba,zbc⟩:Net),(⟨(addN (zaa [((s89 w).get zaI.toNat).Use.Tie]) zae),(zdQ [((s89 w).get zaI.toNat).Use.Tie] [1] zaa)⟩:Mp)⟩:web) (w64 (left - (1:Int)))).2).Net.Ties.len) (fun i=>zai (((Slf69.r.S (⟨(⟨zba,zbc⟩:Net),(⟨(addN (zaa [((s89 w).get zaI.toNat).Use.Tie]) zae),(zdQ [((s89 w).get zaI.toNat).Use.Tie] [1] zaa)⟩:Mp)⟩:web) (w64 (left - (1:Int)))).2).Net.Ties.get i)) (zbF.len+((Slf69.r.S (⟨(⟨zba,zbc⟩:Net),(⟨(addN (zaa [((s89 w).get zaI.toNat).Use.Tie]) zae),(zdQ [((s89 w).get zaI.toNat).Use.Tie] [1] zaa)⟩:Mp)⟩:web) (w64 (left - (1:Int)))).1).len) (appG zbF.len (fun i=>zck (zbF.get i)) (fun i=>zck (((Slf69.r.S (⟨(⟨zba,zbc⟩:Net),(⟨(addN (zaa [((s89 w).get zaI.toNat).Use.Tie]) zae),(zdQ [((s89 w).get zaI.toNat).Use.Tie] [1] zaa)⟩:Mp)⟩:web) (w64 (left - (1:Int)))).1).get i))) (zCF (((((Slf69.r.S (⟨(⟨zba,zbc⟩:Net),(⟨(addN (zaa [((s89 w).get zaI.toNat).Use.Tie]) zae),(zdQ [((s89 w).get zaI.toNat).Use.Tie] [1] zaa)⟩:Mp)⟩:web) (w64 (left - (1:Int)))).2).out).F) [((s89 w).get zaI.toNat).Use.Tie]) ((((Slf69.r.S (⟨(⟨zba,zbc⟩:Net),(⟨(addN (zaa [((s89 w).get zaI.toNat).Use.Tie]) zae),(zdQ [((s89 w).get zaI.toNat).Use.Tie] [1] zaa)⟩:Mp)⟩:web) (w64 (left - (1:Int)))).2).out).n)) (zAQ [((s89 w).get zaI.toNat).Use.Tie] ((((Slf69.r.S (⟨(⟨zba,zbc⟩:Net),(⟨(addN (zaa [((s89 w).get zaI.toNat).Use.Tie]) zae),(zdQ [((s89 w).get zaI.toNat).Use.Tie] [1] zaa)⟩:Mp)⟩:web) (w64 (left - (1:Int)))).2).out).F))))))))
 (K ([.one (.sl zbF.len 1 (fun i=>zck (zbF.get i)))],[.box 105 [.p (.int .i64 zba),.p (.sl zbc.len 4 (fun i=>zai (zbc.get i))),.mo 3 4 (false,1,false,[none]) zae zaa],.d (.one (.int .i64 left))])))
theorem zqj (K : List PA × List XA → Prop) (X0 : St → Prop) (w : web) (left : Int) (zaI : Int) (zba : Int) (zbc : (Sl Tie)) (zbF : (Sl (Sl Int))) (zae : Nat) (zaa : (List Int → Option (List Int))) :
  vc Tryd.prog zB9 zfB (cd (cdF Tryd.f69 [1,1,1,1,0,1,0]) [0]) (zbo Tryd.prog zfB 7 X0 (zak 0 (sqK Tryd.prog zB9 zfB (cdF Tryd.f69 [1,1,1,1,1]) (zmn Tryd.prog Tryd.f69 [.box 105 [.p (.int .i64 w.Net.Nodes),.p (.sl w.Net.Ties.len 4 (fun i=>zai (w.Net.Ties.get i))),.mo 3 4 (false,1,false,[none]) w.out.n w.out.F],.d (.one (.int .i64 left))] (fun a b=>K (a,b)))))) (zgg w left zaI zba zbc.len (fun i=>zai (zbc.get i)) zbF.len (fun i=>zck (zbF.get i)) zae zaa) =
  zm2 K X0 w left zaI zba zbc zbF zae zaa:=by kernel_rfl
theorem zvB (K : List PA × List XA → Prop) (w : web) (left : Int) (zaI : Int) (zba : Int) (zgh : Nat) (zcL : Nat → List PV) (zgi : Nat) (zcM : Nat → List PV) (zae : Nat) (zaa : (List Int → Option (List Int)))
  (h:∀ X0:St→Prop,(∀ (zaI:Int) (zba:Int) (zbc:(Sl Tie)) (zbF:(Sl (Sl Int))) (zae:Nat) (zaa:(List Int→Option (List Int))),zm2 K X0 w left zaI zba zbc zbF zae zaa→X0 (zgg w left zaI zba zbc.len (fun i=>zai (zbc.get i)) zbF.len (fun i=>zck (zbF.get i)) zae zaa))→X0 (zgg w left zaI zba zgh zcL zgi zcM zae zaa)) :
  zic K w left zaI zba zgh zcL zgi zcM zae zaa:=by
  have e:zic K w left zaI zba zgh zcL zgi zcM zae zaa=(∀ X:St→Prop,(∀ s,vc Tryd.prog zB9 zfB (cd (cdF Tryd.f69 [1,1,1,1,0,1,0]) [0]) (zbo Tryd.prog zfB 7 X (zak 0 (sqK Tryd.prog zB9 zfB (cdF Tryd.f69 [1,1,1,1,1]) (zmn Tryd.prog Tryd.f69 [.box 105 [.p (.int .i64 w.Net.Nodes),.p (.sl w.Net.Ties.len 4 (fun i=>zai (w.Net.Ties.get i))),.mo 3 4 (false,1,false,[none]) w.out.n w.out.F],.d (.one (.int .i64 left))] (fun a b=>K (a,b)))))) s→X s)→X (zgg w left zaI zba zgh zcL zgi zcM zae zaa)):=by kernel_rfl
  refine zbm e ?_
  intro X hX
  refine h X ?_
  intro zaI zba zbc zbF zae zaa hs
  refine hX _ ?_
  have e2:=zqj K X w left zaI zba zbc zbF zae zaa
  rw [e2]
  exact hs
abbrev zDb (left:Int) (r:((Sl (Sl Int))×web)):List PA×List XA:=([.one (.sl r.1.len 1 (fun i=>zck (r.1.get i)))],[.box 105 [.p (.int .i64 r.2.Net.Nodes),.p (.sl r.2.Net.Ties.len 4 (fun i=>zai (r.2.Net.Ties.get i))),.mo 3 4 (false,1,false,[none]) r.2.out.n r.2.out.F],.d (.one (.int .i64 left))])
attribute [irreducible] zic
def zop (w:web) (left:Int) (S0:Int→Int→(Sl Tie)→(Sl (Sl Int))→Nat→(List Int→Option (List Int))→((Sl (Sl Int))×web)) (zaI:Int) (zba:Int) (zbc:(Sl Tie)) (zbF:(Sl (Sl Int))) (zae:Nat) (zaa:(List Int→Option (List Int))):((Sl (Sl Int))×web) :=
  (cond (decide (zaI < ((s89 w).len : Int)))
 (cond ((zuW (zaa [((s89 w).get zaI.toNat).Use.Tie]) 0) != 0)
 (S0 (w64 (zaI+(1:Int))) zba zbc zbF zae zaa)
 (S0 (w64 (zaI+(1:Int))) (((Slf69.r.S (⟨(⟨zba,zbc⟩:Net),(⟨(addN (zaa [((s89 w).get zaI.toNat).Use.Tie]) zae),(zdQ [((s89 w).get zaI.toNat).Use.Tie] [1] zaa)⟩:Mp)⟩:web) (w64 (left - (1:Int)))).2).Net.Nodes) (((Slf69.r.S (⟨(⟨zba,zbc⟩:Net),(⟨(addN (zaa [((s89 w).get zaI.toNat).Use.Tie]) zae),(zdQ [((s89 w).get zaI.toNat).Use.Tie] [1] zaa)⟩:Mp)⟩:web) (w64 (left - (1:Int)))).2).Net.Ties) (⟨(zbF.len+((Slf69.r.S (⟨(⟨zba,zbc⟩:Net),(⟨(addN (zaa [((s89 w).get zaI.toNat).Use.Tie]) zae),(zdQ [((s89 w).get zaI.toNat).Use.Tie] [1] zaa)⟩:Mp)⟩:web) (w64 (left - (1:Int)))).1).len),(zjZ zbF.len zbF.get ((Slf69.r.S (⟨(⟨zba,zbc⟩:Net),(⟨(addN (zaa [((s89 w).get zaI.toNat).Use.Tie]) zae),(zdQ [((s89 w).get zaI.toNat).Use.Tie] [1] zaa)⟩:Mp)⟩:web) (w64 (left - (1:Int)))).1).get)⟩:Sl (Sl Int)) (zCF (((((Slf69.r.S (⟨(⟨zba,zbc⟩:Net),(⟨(addN (zaa [((s89 w).get zaI.toNat).Use.Tie]) zae),(zdQ [((s89 w).get zaI.toNat).Use.Tie] [1] zaa)⟩:Mp)⟩:web) (w64 (left - (1:Int)))).2).out).F) [((s89 w).get zaI.toNat).Use.Tie]) ((((Slf69.r.S (⟨(⟨zba,zbc⟩:Net),(⟨(addN (zaa [((s89 w).get zaI.toNat).Use.Tie]) zae),(zdQ [((s89 w).get zaI.toNat).Use.Tie] [1] zaa)⟩:Mp)⟩:web) (w64 (left - (1:Int)))).2).out).n)) (zAQ [((s89 w).get zaI.toNat).Use.Tie] ((((Slf69.r.S (⟨(⟨zba,zbc⟩:Net),(⟨(addN (zaa [((s89 w).get zaI.toNat).Use.Tie]) zae),(zdQ [((s89 w).get zaI.toNat).Use.Tie] [1] zaa)⟩:Mp)⟩:web) (w64 (left - (1:Int)))).2).out).F))))
 (zbF,(⟨(⟨zba,zbc⟩:Net),(⟨zae,zaa⟩:Mp)⟩:web)))
def zoq (w:web) (left:Int) (P0:Int→Int→(Sl Tie)→(Sl (Sl Int))→Nat→(List Int→Option (List Int))→Bool) (zaI:Int) (zba:Int) (zbc:(Sl Tie)) (zbF:(Sl (Sl Int))) (zae:Nat) (zaa:(List Int→Option (List Int))):Bool :=
  (cond (decide (zaI < ((s89 w).len : Int)))
 (decide ((0≤zaI∧zaI < ((s89 w).len:Int))) &&
 (cond ((zuW (zaa [((s89 w).get zaI.toNat).Use.Tie]) 0) != 0)
 (P0 (w64 (zaI+(1:Int))) zba zbc zbF zae zaa)
 (decide ((Slf69.r.P (⟨(⟨zba,zbc⟩:Net),(⟨(addN (zaa [((s89 w).get zaI.toNat).Use.Tie]) zae),(zdQ [((s89 w).get zaI.toNat).Use.Tie] [1] zaa)⟩:Mp)⟩:web) (w64 (left - (1:Int)))=true)) &&
 (decide (((zbF.len+((Slf69.r.S (⟨(⟨zba,zbc⟩:Net),(⟨(addN (zaa [((s89 w).get zaI.toNat).Use.Tie]) zae),(zdQ [((s89 w).get zaI.toNat).Use.Tie] [1] zaa)⟩:Mp)⟩:web) (w64 (left - (1:Int)))).1).len) * 24≤140737488355328∧zbF.len+((Slf69.r.S (⟨(⟨zba,zbc⟩:Net),(⟨(addN (zaa [((s89 w).get zaI.toNat).Use.Tie]) zae),(zdQ [((s89 w).get zaI.toNat).Use.Tie] [1] zaa)⟩:Mp)⟩:web) (w64 (left - (1:Int)))).1).len≤9223372036854775807)) &&
 (P0 (w64 (zaI+(1:Int))) (((Slf69.r.S (⟨(⟨zba,zbc⟩:Net),(⟨(addN (zaa [((s89 w).get zaI.toNat).Use.Tie]) zae),(zdQ [((s89 w).get zaI.toNat).Use.Tie] [1] zaa)⟩:Mp)⟩:web) (w64 (left - (1:Int)))).2).Net.Nodes) (((Slf69.r.S (⟨(⟨zba,zbc⟩:Net),(⟨(addN (zaa [((s89 w).get zaI.toNat).Use.Tie]) zae),(zdQ [((s89 w).get zaI.toNat).Use.Tie] [1] zaa)⟩:Mp)⟩:web) (w64 (left - (1:Int)))).2).Net.Ties) (⟨(zbF.len+((Slf69.r.S (⟨(⟨zba,zbc⟩:Net),(⟨(addN (zaa [((s89 w).get zaI.toNat).Use.Tie]) zae),(zdQ [((s89 w).get zaI.toNat).Use.Tie] [1] zaa)⟩:Mp)⟩:web) (w64 (left - (1:Int)))).1).len),(zjZ zbF.len zbF.get ((Slf69.r.S (⟨(⟨zba,zbc⟩:Net),(⟨(addN (zaa [((s89 w).get zaI.toNat).Use.Tie]) zae),(zdQ [((s89 w).get zaI.toNat).Use.Tie] [1] zaa)⟩:Mp)⟩:web) (w64 (left - (1:Int)))).1).get)⟩:Sl (Sl Int)) (zCF (((((Slf69.r.S (⟨(⟨zba,zbc⟩:Net),(⟨(addN (zaa [((s89 w).get zaI.toNat).Use.Tie]) zae),(zdQ [((s89 w).get zaI.toNat).Use.Tie] [1] zaa)⟩:Mp)⟩:web) (w64 (left - (1:Int)))).2).out).F) [((s89 w).get zaI.toNat).Use.Tie]) ((((Slf69.r.S (⟨(⟨zba,zbc⟩:Net),(⟨(addN (zaa [((s89 w).get zaI.toNat).Use.Tie]) zae),(zdQ [((s89 w).get zaI.toNat).Use.Tie] [1] zaa)⟩:Mp)⟩:web) (w64 (left - (1:Int)))).2).out).n)) (zAQ [((s89 w).get zaI.toNat).Use.Tie] ((((Slf69.r.S (⟨(⟨zba,zbc⟩:Net),(⟨(addN (zaa [((s89 w).get zaI.toNat).Use.Tie]) zae),(zdQ [((s89 w).get zaI.toNat).Use.Tie] [1] zaa)⟩:Mp)⟩:web) (w64 (left - (1:Int)))).2).out).F)))))))
 true)
def zid (w : web) (left : Int) : Nat → Int → Int → (Sl Tie) → (Sl (Sl Int)) → Nat → (List Int → Option (List Int)) → ((Sl (Sl Int)) × web)
  | 0=>fun _ _ _ _ _ _=>default
  | k+1=>zop w left (zid w left k)
def zie (w : web) (left : Int) : Nat → Int → Int → (Sl Tie) → (Sl (Sl Int)) → Nat → (List Int → Option (List Int)) → Bool
  | 0=>fun _ _ _ _ _ _=>false
  | k+1=>zoq w left (zie w left k)
def zuF (w:web) (left:Int) (zaI:Int) (zba:Int) (zbc:(Sl Tie)) (zbF:(Sl (Sl Int))) (zae:Nat) (zaa:(List Int→Option (List Int))):((Sl (Sl Int))×web):=zid w left Fuel zaI zba zbc zbF zae zaa
def zuG (w:web) (left:Int) (zaI:Int) (zba:Int) (zbc:(Sl Tie)) (zbF:(Sl (Sl Int))) (zae:Nat) (zaa:(List Int→Option (List Int))):Bool:=zie w left Fuel zaI zba zbc zbF zae zaa
theorem zCb (K:List PA×List XA→Prop) (w:web) (left:Int) (zaI:Int) (zba:Int) (zbc:(Sl Tie)) (zbF:(Sl (Sl Int))) (zae:Nat) (zaa:(List Int→Option (List Int))) (zcL:Nat→List PV) (zlY:zcL=fun i=>zai (zbc.get i)) (zcM:Nat→List PV) (zlZ:zcM=fun i=>zck (zbF.get i)) (hs:zuG w left zaI zba zbc zbF zae zaa=true) (hk:K (zDb left (zuF w left zaI zba zbc zbF zae zaa))):zic (WkM K) w left zaI zba zbc.len zcL zbF.len zcM zae zaa:=by
  refine zvB (WkM K) w left zaI zba zbc.len zcL zbF.len zcM zae zaa ?_
  intro X0 hstep
  have key:∀ (k:Nat) (zaI:Int) (zba:Int) (zbc:(Sl Tie)) (zbF:(Sl (Sl Int))) (zae:Nat) (zaa:(List Int→Option (List Int))) (zcL:Nat→List PV) (zlY:zcL=fun i=>zai (zbc.get i)) (zcM:Nat→List PV) (zlZ:zcM=fun i=>zck (zbF.get i)),zie w left k zaI zba zbc zbF zae zaa=true→K (zDb left (zid w left k zaI zba zbc zbF zae zaa))→X0 (zgg w left zaI zba zbc.len zcL zbF.len zcM zae zaa):=by
    intro k
    induction k with
    | zero=>intro zaI zba zbc zbF zae zaa zcL zlY zcM zlZ hs;exact absurd hs Bool.false_ne_true
    | succ k ih =>
      intro zaI zba zbc zbF zae zaa zcL zlY zcM zlZ hs hk
      subst zlY
      subst zlZ
      refine hstep zaI zba zbc zbF zae zaa ?_
      have hs:zoq w left (zie w left k) zaI zba zbc zbF zae zaa=true:=hs
      have hk:K (zDb left (zop w left (zid w left k) zaI zba zbc zbF zae zaa)):=hk
      unfold zoq at hs
      unfold zop at hk
      generalize zid w left k=S0 at hk ih
      generalize zie w left k=P0 at hs ih
      have hX0:=ih
      exact (za0 (K := fun r => K (zDb left r))
 (fun hs hk => (za4 hs fun hc hs => ⟨hc, (za0 (K := fun r => K (zDb left r))
 (fun hs hk=>(hX0 (w64 (zaI+(1:Int))) zba zbc zbF zae zaa (fun i=>zai (zbc.get i)) rfl (fun i=>zck (zbF.get i)) rfl hs hk))
 (fun hs hk=>(za4 hs fun hc hs=>⟨⟨isE,rfl,hc⟩,(za4 hs fun hc hs=>⟨hc,(hX0 (w64 (zaI+(1:Int))) (((Slf69.r.S (⟨(⟨zba,zbc⟩:Net),(⟨(addN (zaa [((s89 w).get zaI.toNat).Use.Tie]) zae),(zdQ [((s89 w).get zaI.toNat).Use.Tie] [1] zaa)⟩:Mp)⟩:web) (w64 (left - (1:Int)))).2).Net.Nodes) (((Slf69.r.S (⟨(⟨zba,zbc⟩:Net),(⟨(addN (zaa [((s89 w).get zaI.toNat).Use.Tie]) zae),(zdQ [((s89 w).get zaI.toNat).Use.Tie] [1] zaa)⟩:Mp)⟩:web) (w64 (left - (1:Int)))).2).Net.Ties) (⟨(zbF.len+((Slf69.r.S (⟨(⟨zba,zbc⟩:Net),(⟨(addN (zaa [((s89 w).get zaI.toNat).Use.Tie]) zae),(zdQ [((s89 w).get zaI.toNat).Use.Tie] [1] zaa)⟩:Mp)⟩:web) (w64 (left - (1:Int)))).1).len),(zjZ zbF.len zbF.get ((Slf69.r.S (⟨(⟨zba,zbc⟩:Net),(⟨(addN (zaa [((s89 w).get zaI.toNat).Use.Tie]) zae),(zdQ [((s89 w).get zaI.toNat).Use.Tie] [1] zaa)⟩:Mp)⟩:web) (w64 (left - (1:Int)))).1).get)⟩:Sl (Sl Int)) (zCF (((((Slf69.r.S (⟨(⟨zba,zbc⟩:Net),(⟨(addN (zaa [((s89 w).get zaI.toNat).Use.Tie]) zae),(zdQ [((s89 w).get zaI.toNat).Use.Tie] [1] zaa)⟩:Mp)⟩:web) (w64 (left - (1:Int)))).2).out).F) [((s89 w).get zaI.toNat).Use.Tie]) ((((Slf69.r.S (⟨(⟨zba,zbc⟩:Net),(⟨(addN (zaa [((s89 w).get zaI.toNat).Use.Tie]) zae),(zdQ [((s89 w).get zaI.toNat).Use.Tie] [1] zaa)⟩:Mp)⟩:web) (w64 (left - (1:Int)))).2).out).n)) (zAQ [((s89 w).get zaI.toNat).Use.Tie] ((((Slf69.r.S (⟨(⟨zba,zbc⟩:Net),(⟨(addN (zaa [((s89 w).get zaI.toNat).Use.Tie]) zae),(zdQ [((s89 w).get zaI.toNat).Use.Tie] [1] zaa)⟩:Mp)⟩:web) (w64 (left - (1:Int)))).2).out).F)) (fun i=>zai (((Slf69.r.S (⟨(⟨zba,zbc⟩:Net),(⟨(addN (zaa [((s89 w).get zaI.toNat).Use.Tie]) zae),(zdQ [((s89 w).get zaI.toNat).Use.Tie] [1] zaa)⟩:Mp)⟩:web) (w64 (left - (1:Int)))).2).Net.Ties.get i)) rfl (appG zbF.len (fun i=>zck (zbF.get i)) (fun i=>zck (((Slf69.r.S (⟨(⟨zba,zbc⟩:Net),(⟨(addN (zaa [((s89 w).get zaI.toNat).Use.Tie]) zae),(zdQ [((s89 w).get zaI.toNat).Use.Tie] [1] zaa)⟩:Mp)⟩:web) (w64 (left - (1:Int)))).1).get i))) (zk2 (enc:=zck) (f:=zbF.get) (h:=((Slf69.r.S (⟨(⟨zba,zbc⟩:Net),(⟨(addN (zaa [((s89 w).get zaI.toNat).Use.Tie]) zae),(zdQ [((s89 w).get zaI.toNat).Use.Tie] [1] zaa)⟩:Mp)⟩:web) (w64 (left - (1:Int)))).1).get) rfl rfl) hs hk)⟩)⟩)) hs hk)⟩))
 (fun hs hk=>(zxm hk)) hs hk)
  exact key _ zaI zba zbc zbF zae zaa zcL zlY zcM zlZ hs hk
def zAM (w:web) (left:Int):((Sl (Sl Int))×web) :=
  (cond (!(s88 w))
 ((⟨1,fun _=>(⟨w.out.n,(fun i=>(zvK w.out.F w.out.n).getD i 0)⟩:(Sl Int))⟩:(Sl (Sl Int))),w)
 (cond (left == (0:Int))
 ((⟨0,fun _=>default⟩:(Sl (Sl Int))),w)
 (zuF w left (0:Int) w.Net.Nodes w.Net.Ties (⟨0,(fun _=>default)⟩:Sl (Sl Int)) w.out.n w.out.F)))
def zKk (w:web) (left:Int):Bool :=
  (decide ((p88 w=true)) &&
 (cond (!(s88 w))
 (decide ((w.out.n≤1000000∧(zvJ w.out.F 9223372036854775808 0 w.out.n).isSome=true)) &&
 true)
 (cond (left == (0:Int))
 true
 (decide ((p89 w=true)) &&
 (zuG w left (0:Int) w.Net.Nodes w.Net.Ties (⟨0,(fun _=>default)⟩:Sl (Sl Int)) w.out.n w.out.F)))))
theorem zMG (w:web) (left:Int) (K:List PA×List XA→Prop) (hs:zKk w left=true) (hk:K (zDb left (zAM w left))):zkY Tryd.prog zB9 zfB 69 [.box 105 [.p (.int .i64 w.Net.Nodes),.p (.sl w.Net.Ties.len 4 (fun i=>zai (w.Net.Ties.get i))),.mo 3 4 (false,1,false,[none]) w.out.n w.out.F],.d (.one (.int .i64 left))] (fun a b=>(WkM K) (a,b)):=by
  refine zbm (zCa w left (WkM K)) ?_
  unfold zKk at hs
  unfold zAM at hk
  exact (za4 hs fun hc hs => ⟨⟨isE, rfl, hc⟩, (za0 (K := fun r => K (zDb left r))
 (fun hs hk=>(za4 hs fun hc hs=>⟨hc,(zxm hk)⟩))
 (fun hs hk => (za0 (K := fun r => K (zDb left r))
 (fun hs hk=>(wkM hk (ze2 (.one (.nil _ _)) zmh)))
 (fun hs hk=>(za4 hs fun hc hs=>⟨⟨(fun _=>rfl),isE,rfl,hc⟩,(zCb K w left (0:Int) w.Net.Nodes w.Net.Ties (⟨0,(fun _=>default)⟩:Sl (Sl Int)) w.out.n w.out.F (fun i=>zai (w.Net.Ties.get i)) rfl (fun i=>zck ((fun _=>default) i)) rfl hs hk)⟩)) hs hk)) hs hk)⟩)
def zIW : MK
  | [.box 105 [.p (.int .i64 b0_Net_Nodes),.p (.sl b0_Net_Ties_n b0_Net_Ties_s b0_Net_Ties_g),.mo 3 4 b0_out_q b0_out_n b0_out_F],.d (.one (.int .i64 b1))]=>some (IsE zai 4 b0_Net_Ties_s b0_Net_Ties_g∧b0_out_q=(false,1,false,[none])∧zKk (⟨(⟨b0_Net_Nodes,(⟨b0_Net_Ties_n,zat b0_Net_Ties_g⟩:(Sl Tie))⟩:Net),(⟨b0_out_n,b0_out_F⟩:Mp)⟩:web) b1=true,[.one (.sl (((zAM (⟨(⟨b0_Net_Nodes,(⟨b0_Net_Ties_n,zat b0_Net_Ties_g⟩:(Sl Tie))⟩:Net),(⟨b0_out_n,b0_out_F⟩:Mp)⟩:web) b1).1).len) 1 (fun i=>zck (((zAM (⟨(⟨b0_Net_Nodes,(⟨b0_Net_Ties_n,zat b0_Net_Ties_g⟩:(Sl Tie))⟩:Net),(⟨b0_out_n,b0_out_F⟩:Mp)⟩:web) b1).1).get i)))],[.box 105 [.p (.int .i64 (((zAM (⟨(⟨b0_Net_Nodes,(⟨b0_Net_Ties_n,zat b0_Net_Ties_g⟩:(Sl Tie))⟩:Net),(⟨b0_out_n,b0_out_F⟩:Mp)⟩:web) b1).2).Net.Nodes)),.p (.sl (((zAM (⟨(⟨b0_Net_Nodes,(⟨b0_Net_Ties_n,zat b0_Net_Ties_g⟩:(Sl Tie))⟩:Net),(⟨b0_out_n,b0_out_F⟩:Mp)⟩:web) b1).2).Net.Ties.len) 4 (fun i=>zai (((zAM (⟨(⟨b0_Net_Nodes,(⟨b0_Net_Ties_n,zat b0_Net_Ties_g⟩:(Sl Tie))⟩:Net),(⟨b0_out_n,b0_out_F⟩:Mp)⟩:web) b1).2).Net.Ties.get i))),.mo 3 4 (false,1,false,[none]) ((((zAM (⟨(⟨b0_Net_Nodes,(⟨b0_Net_Ties_n,zat b0_Net_Ties_g⟩:(Sl Tie))⟩:Net),(⟨b0_out_n,b0_out_F⟩:Mp)⟩:web) b1).2).out).n) ((((zAM (⟨(⟨b0_Net_Nodes,(⟨b0_Net_Ties_n,zat b0_Net_Ties_g⟩:(Sl Tie))⟩:Net),(⟨b0_out_n,b0_out_F⟩:Mp)⟩:web) b1).2).out).F)],.d (.one (.int .i64 b1))])
  | _=>none
theorem zIX:zay Tryd.prog 69:=⟨_,rfl,rfl,by kernel_rfl⟩
theorem zK6 (hself:zjI Tryd.prog 69 zys):zjI Tryd.prog 69 zIW:=zBI (zK5 hself) zIX fun xs safe rs ys h hs K hk=>by
  unfold zIW at h
  split at h
  · rename_i b0_Net_Nodes b0_Net_Ties_n b0_Net_Ties_s b0_Net_Ties_g b0_out_q b0_out_n b0_out_F b1
    simp only [Option.some.injEq,Prod.mk.injEq] at h
    obtain ⟨rfl,rfl,rfl⟩:=h
    obtain ⟨⟨rfl,b0_Net_Ties_f,rfl⟩,rfl,hs⟩:=hs
    try rw [zav b0_Net_Ties_f] at hs
    try rw [zav b0_Net_Ties_f] at hk
    refine ⟨fun _ _=>[],fun _=>false,zfB,?_⟩
    show zkY Tryd.prog zB9 zfB 69 _ _
    exact zMG (⟨(⟨b0_Net_Nodes,(⟨b0_Net_Ties_n,b0_Net_Ties_f⟩:(Sl Tie))⟩:Net),(⟨b0_out_n,b0_out_F⟩:Mp)⟩:web) b1 (fun x=>K x.1 x.2) hs hk
  · cases h
end
def zvC : Nat → Rec69
  | 0=>⟨fun _ _=>default,fun _ _=>false⟩
  | k+1=>⟨@zAM ⟨zvC k⟩,@zKk ⟨zvC k⟩⟩
theorem zIY : ∀ k, zjI Tryd.prog 69 (@zys ⟨zvC k⟩)
  | 0=>fun xs ys safe rs h hs=>by
    unfold zys at h
    split at h
    · simp only [Option.some.injEq, Prod.mk.injEq] at h
      obtain ⟨rfl,rfl,rfl⟩:=h
      exact absurd hs.2.2 Bool.false_ne_true
    · cases h
  | k+1=>@zK6 ⟨zvC k⟩ (zIY k)
def s69 (w:web) (left:Int):((Sl (Sl Int))×web):=(zvC 64).S w left
def p69 (w:web) (left:Int):Bool:=(zvC 64).P w left
def zIZ : MK
  | [.box 105 [.p (.int .i64 b0_Net_Nodes),.p (.sl b0_Net_Ties_n b0_Net_Ties_s b0_Net_Ties_g),.mo 3 4 b0_out_q b0_out_n b0_out_F],.d (.one (.int .i64 b1))]=>some (IsE zai 4 b0_Net_Ties_s b0_Net_Ties_g∧b0_out_q=(false,1,false,[none])∧p69 (⟨(⟨b0_Net_Nodes,(⟨b0_Net_Ties_n,zat b0_Net_Ties_g⟩:(Sl Tie))⟩:Net),(⟨b0_out_n,b0_out_F⟩:Mp)⟩:web) b1=true,[.one (.sl (((s69 (⟨(⟨b0_Net_Nodes,(⟨b0_Net_Ties_n,zat b0_Net_Ties_g⟩:(Sl Tie))⟩:Net),(⟨b0_out_n,b0_out_F⟩:Mp)⟩:web) b1).1).len) 1 (fun i=>zck (((s69 (⟨(⟨b0_Net_Nodes,(⟨b0_Net_Ties_n,zat b0_Net_Ties_g⟩:(Sl Tie))⟩:Net),(⟨b0_out_n,b0_out_F⟩:Mp)⟩:web) b1).1).get i)))],[.box 105 [.p (.int .i64 (((s69 (⟨(⟨b0_Net_Nodes,(⟨b0_Net_Ties_n,zat b0_Net_Ties_g⟩:(Sl Tie))⟩:Net),(⟨b0_out_n,b0_out_F⟩:Mp)⟩:web) b1).2).Net.Nodes)),.p (.sl (((s69 (⟨(⟨b0_Net_Nodes,(⟨b0_Net_Ties_n,zat b0_Net_Ties_g⟩:(Sl Tie))⟩:Net),(⟨b0_out_n,b0_out_F⟩:Mp)⟩:web) b1).2).Net.Ties.len) 4 (fun i=>zai (((s69 (⟨(⟨b0_Net_Nodes,(⟨b0_Net_Ties_n,zat b0_Net_Ties_g⟩:(Sl Tie))⟩:Net),(⟨b0_out_n,b0_out_F⟩:Mp)⟩:web) b1).2).Net.Ties.get i))),.mo 3 4 (false,1,false,[none]) ((((s69 (⟨(⟨b0_Net_Nodes,(⟨b0_Net_Ties_n,zat b0_Net_Ties_g⟩:(Sl Tie))⟩:Net),(⟨b0_out_n,b0_out_F⟩:Mp)⟩:web) b1).2).out).n) ((((s69 (⟨(⟨b0_Net_Nodes,(⟨b0_Net_Ties_n,zat b0_Net_Ties_g⟩:(Sl Tie))⟩:Net),(⟨b0_out_n,b0_out_F⟩:Mp)⟩:web) b1).2).out).F)],.d (.one (.int .i64 b1))])
  | _=>none
theorem zMH:zjI Tryd.prog 69 zIZ:=zIY 64
abbrev T71:Tabs:=(Tabs.nil.addF 101 zut)
theorem zK7:TabsOk Tryd.prog T71:=(TabsOk.nil.addF zIN)
abbrev G71:Ctrs:=csm T71 (fun _ _=>[]) (fun _=>false)
def zFk:Ann:=⟨36,[(0,zK [0,1] []),(1,zK [0,1,9,10,11] []),(2,zK [0,1,9,10,11,12] []),(3,zK [0,1,5,6,9,10,11] []),(4,zK [0,1,5,6,9,10,11,19] []),(5,zK [4] []),(6,zK [0,1,6,7,9,10,11] []),(7,zK [0,1,8,9,10,11] []),(8,zK [0,1,8,9,10,11,28] []),(9,zK [4] []),(10,zK [0,1,9,10,11] []),(11,zK [35] []),(12,zK [4] []),(13,zK [4] [])],
 [(2,zK [0,1,9,10,11] [])],
 [(6,zK [0,1,5,6,9,10,11] []),(8,zK [0,1,8,9,10,11] [])],
 [],[]⟩
abbrev R71:=Int
abbrev e71 (r:R71):List PA:=[.one (.int .i64 r)]
@[irreducible] def z71:=ptF Tryd.prog G71 zFk Tryd.f71
def zDc (zeH:(Sl Int)) (zec:(Sl Int)) (zhr:(Sl Int)) (zaK:Int) (za3:Int) (zds:Nat→List PV) (zdt:Nat→List PV) (zjE:Nat→List PV):St:=⟨[(0,zP (.sl zeH.len 1 zds)),(1,zP (.sl zec.len 1 zdt)),(9,zP (.sl zhr.len 1 zjE)),(10,zI zaK),(11,zI za3)],[],[]⟩
abbrev zCc (K:List PA→Prop) (X:St→Prop) (P:(Sl Int)→(Sl Int)→(Sl Int)→Int→Int→Bool) (S:(Sl Int)→(Sl Int)→(Sl Int)→Int→Int→Int):Prop:=∀ ⦃zeH:(Sl Int)⦄ ⦃zec:(Sl Int)⦄ ⦃zhr:(Sl Int)⦄ ⦃zaK:Int⦄ ⦃za3:Int⦄ ⦃zds:Nat→List PV⦄ ⦃zdt:Nat→List PV⦄ ⦃zjE:Nat→List PV⦄,P zeH zec zhr zaK za3=true→K (e71 (S zeH zec zhr zaK za3))→zds=zg enc_3 zeH→zdt=zg enc_3 zec→zjE=zg enc_3 zhr→X (zDc zeH zec zhr zaK za3 zds zdt zjE)
section
variable {K:List PA→Prop} {s1_a0:(Sl Int)} {s2_a1:(Sl Int)} {zeH:(Sl Int)} {zec:(Sl Int)} {zhr:(Sl Int)} {zaK:Int} {za3:Int} {zds:Nat→List PV} {zdt:Nat→List PV} {zjE:Nat→List PV} {X0:St→Prop} {P0:(Sl Int)→(Sl Int)→(Sl Int)→Int→Int→Bool} {S0:(Sl Int)→(Sl Int)→(Sl Int)→Int→Int→Int} {zp3:(Sl Int)} {zj3:(Sl Int)} {iv1:Int} {zFl:Int} {zsv:(Sl Int)} {zif:Int} {zc0:Int} {zp4:Nat→List PV} {zp5:Nat→List PV} {zDd:Nat→List PV} {zp6:(Sl Int)} {zp7:(Sl Int)} {cv2:Int} {zsw:Int} {zp8:Nat→List PV} {zp9:Nat→List PV}
def zyt (S0:(Sl Int)→(Sl Int)→(Sl Int)→Int→Int→Int) (zsv:(Sl Int)) (zif:Int) (zp6:(Sl Int)) (zp7:(Sl Int)) (cv2:Int) (zsw:Int):Int :=
  (cond (cv2 != (0:Int))
 cv2
 (S0 zp6 zp7 zsv zif (w64 (zsw+(1:Int)))))
def zyu (P0:(Sl Int)→(Sl Int)→(Sl Int)→Int→Int→Bool) (zsv:(Sl Int)) (zif:Int) (zp6:(Sl Int)) (zp7:(Sl Int)) (cv2:Int) (zsw:Int):Bool :=
  (cond (cv2 != (0:Int))
 true
 (P0 zp6 zp7 zsv zif (w64 (zsw+(1:Int)))))
theorem zFm (hX0:zCc K X0 P0 S0) (hs:zyu P0 zsv zif zp6 zp7 cv2 zsw=true) (hk:K (e71 (zyt S0 zsv zif zp6 zp7 cv2 zsw))) (zx4:zp8=zg enc_3 zp6) (zx5:zp9=zg enc_3 zp7):z71 K [1,0,1,0,0,1,1,0,0,1,1,1,1] [X0] ⟨[(0,zP (.sl zp6.len 1 zp8)),(1,zP (.sl zp7.len 1 zp9)),(8,zI cv2),(9,zS enc_3 1 zsv),(10,zI zif),(11,zI zsw)],[],[]⟩:=by subst zx4;subst zx5;exact zbm (by kernel_rfl) (zc hs hk (fun hs hk=>hk) (fun hs hk=>(hX0 hs hk rfl rfl rfl)))
def zyv (S0:(Sl Int)→(Sl Int)→(Sl Int)→Int→Int→Int) (zp3:(Sl Int)) (zj3:(Sl Int)) (iv1:Int) (zFl:Int) (zsv:(Sl Int)) (zif:Int) (zc0:Int):Int :=
  (zyt S0 zsv zif zp3 zj3 (zAL zFl (zj3.get iv1.toNat)) zc0)
def zyw (P0:(Sl Int)→(Sl Int)→(Sl Int)→Int→Int→Bool) (zp3:(Sl Int)) (zj3:(Sl Int)) (iv1:Int) (zFl:Int) (zsv:(Sl Int)) (zif:Int) (zc0:Int):Bool :=
  (decide ((0≤iv1∧iv1 < (zj3.len:Int))) &&
 (zyu P0 zsv zif zp3 zj3 (zAL zFl (zj3.get iv1.toNat)) zc0))
theorem zFn (hX0:zCc K X0 P0 S0) (hs:zyw P0 zp3 zj3 iv1 zFl zsv zif zc0=true) (hk:K (e71 (zyv S0 zp3 zj3 iv1 zFl zsv zif zc0))) (zx6:zp4=zg enc_3 zp3) (zx7:zp5=zg enc_3 zj3) (zI0:zDd=zg enc_3 zsv):z71 K [1,0,1,0,0,1,1,0,0,1,1] [X0] ⟨[(0,zP (.sl zp3.len 1 zp4)),(1,zP (.sl zj3.len 1 zp5)),(5,zI iv1),(6,zI zFl),(9,zP (.sl zsv.len 1 zDd)),(10,zI zif),(11,zI zc0)],[],[]⟩:=by subst zx6;subst zx7;subst zI0;exact zbm (by kernel_rfl) (za4 hs fun hc hs=>And.intro hc (zFm hX0 hs hk rfl rfl))
def zyx (S0:(Sl Int)→(Sl Int)→(Sl Int)→Int→Int→Int) (zeH:(Sl Int)) (zec:(Sl Int)) (zhr:(Sl Int)) (zaK:Int) (za3:Int):Int :=
  (cond (decide (za3 < zaK))
 (cond (decide (za3 ≥ (zec.len : Int)))
 (1:Int)
 (zyv S0 zeH zec za3 (zhr.get za3.toNat) zhr zaK za3))
 (cond (decide ((zeH.len : Int) < (zec.len : Int)))
 (-1:Int)
 (0:Int)))
def zyy (P0:(Sl Int)→(Sl Int)→(Sl Int)→Int→Int→Bool) (zeH:(Sl Int)) (zec:(Sl Int)) (zhr:(Sl Int)) (zaK:Int) (za3:Int):Bool :=
  (cond (decide (za3 < zaK))
 (decide ((0≤za3∧za3 < (zhr.len:Int))) &&
 (cond (decide (za3 ≥ (zec.len : Int)))
 true
 (zyw P0 zeH zec za3 (zhr.get za3.toNat) zhr zaK za3)))
 true)
def zyz:Nat→(Sl Int)→(Sl Int)→(Sl Int)→Int→Int→Int:=lpO (fun _ _ _ _ _=>default) (zyx)
def zyA:Nat→(Sl Int)→(Sl Int)→(Sl Int)→Int→Int→Bool:=lpO (fun _ _ _ _ _=>false) (zyy)
def zyB (zeH:(Sl Int)) (zec:(Sl Int)) (zhr:(Sl Int)) (zaK:Int) (za3:Int):Int:=zyz Fuel zeH zec zhr zaK za3
def zyC (zeH:(Sl Int)) (zec:(Sl Int)) (zhr:(Sl Int)) (zaK:Int) (za3:Int):Bool:=zyA Fuel zeH zec zhr zaK za3
theorem zFo (hs:zyC zeH zec zhr zaK za3=true) (hk:K (e71 (zyB zeH zec zhr zaK za3))) (zlx:zds=zg enc_3 zeH) (zly:zdt=zg enc_3 zec) (zyD:zjE=zg enc_3 zhr):z71 K [1,0,1,0] [] (zDc zeH zec zhr zaK za3 zds zdt zjE) :=
  zl (fun X=>z71 K [1,0,1,0,0] [X]) (by kernel_rfl) fun X0 hX =>
  (show ∀ k, zCc K X0 (zyA k) (zyz k) from zjK _ _ (zyy) (zyx) (zCc K X0)
 (by intro _ _ _ _ _ _ _ _ hs;exact absurd hs Bool.false_ne_true)
 (by intro P0 S0 hX0 zeH zec zhr zaK za3 zds zdt zjE hs hk zlx zly zyD;subst zlx;subst zly;subst zyD;exact hX _ (zbm (by kernel_rfl) (zc hs hk (fun hs hk=>(za4 hs fun hc hs=>And.intro hc (zc hs hk (fun hs hk=>hk) (fun hs hk=>(zFn hX0 hs hk rfl rfl rfl))))) (fun hs hk=>(zt hk (fun hk=>hk) (fun hk=>hk))))))) _ hs hk zlx zly zyD
def s71 (s1_a0:(Sl Int)) (s2_a1:(Sl Int)):Int :=
  (zyB s1_a0 s2_a1 s1_a0 (s1_a0.len:Int) (0:Int))
def p71 (s1_a0:(Sl Int)) (s2_a1:(Sl Int)):Bool :=
  (zyC s1_a0 s2_a1 s1_a0 (s1_a0.len:Int) (0:Int))
end
theorem q71 (s1_a0:(Sl Int)) (s2_a1:(Sl Int)) (K:List PA→Prop) (hs:p71 s1_a0 s2_a1=true) (hk:K (e71 (s71 s1_a0 s2_a1))):vcFun Tryd.prog G71 zFk 71 [.one (.sl s1_a0.len 1 (fun i=>enc_3 (s1_a0.get i))),.one (.sl s2_a1.len 1 (fun i=>enc_3 (s2_a1.get i)))] K :=
  zbm (by kernel_rfl) (zFo hs hk rfl rfl rfl)
def zFp : List PA → COut
  | [.one (.sl ze3 zlw ze4),.one (.sl zc1 zfK zcZ)]=>.det (IsE enc_3 1 zlw ze4∧IsE enc_3 1 zfK zcZ∧p71 (⟨ze3,zax ze4⟩:(Sl Int)) (⟨zc1,zax zcZ⟩:(Sl Int))=true) [.one (.int .i64 (s71 (⟨ze3,zax ze4⟩:(Sl Int)) (⟨zc1,zax zcZ⟩:(Sl Int))))]
  | _=>.no
theorem zI1:zay Tryd.prog 71:=⟨_,rfl,rfl,by kernel_rfl⟩
theorem zMI:Ok Tryd.prog 71 zFp:=zbY zK7 zI1 fun args K h=>by
  unfold zFp at h
  split at h
  · rename_i ze3 zlw ze4 zc1 zfK zcZ
    obtain ⟨⟨⟨rfl,zhq,rfl⟩,⟨rfl,zd5,rfl⟩,hs⟩,hk⟩:=h
    try rw [zbe zhq] at hs
    try rw [zbe zhq] at hk
    try rw [zbe zd5] at hs
    try rw [zbe zd5] at hk
    exact ⟨(fun _ _=>[]),(fun _=>false),zFk,q71 (⟨ze3,zhq⟩:(Sl Int)) (⟨zc1,zd5⟩:(Sl Int)) K hs hk⟩
  · exact h.elim
abbrev T70:Tabs:=(Tabs.nil.addF 71 zFp)
theorem zK8:TabsOk Tryd.prog T70:=(TabsOk.nil.addF zMI)
abbrev G70:Ctrs:=csm T70 (fun _ _=>[]) (fun _=>false)
def zFq:Ann:=⟨33,[(0,zK [0,1] []),(1,zK [0,1,9] []),(3,zK [0,1,5] []),(4,zK [0,1,5,6] []),(5,zK [0,1,5,6,17] []),(6,zK [0,1,5,6] []),(7,zK [0,1,5,6,27] []),(8,zK [0,1,5,6] []),(9,zK [4] [])],
 [(5,zK [0,1,5,6] [])],
 [(3,zK [0,1] []),(8,zK [0,1,5,6,27] [])],
 [],[]⟩
abbrev R70:=(Sl Int)
abbrev e70 (r:R70):List PA:=[.one (.sl r.len 1 (fun i=>enc_3 (r.get i)))]
@[irreducible] def z70:=ptF Tryd.prog G70 zFq Tryd.f70
def zDe (x:(Sl (Sl Int))) (mv1:(Sl Int)) (iv1:Int) (zqk:Nat→List PV):St:=⟨[(0,zS zck 1 x),(1,zP (.fn 71 [] [])),(5,zP (.sl mv1.len 1 zqk)),(6,zI iv1)],[],[]⟩
abbrev zFr (K:List PA→Prop) (x:(Sl (Sl Int))) (X:St→Prop) (P:(Sl Int)→Int→Bool) (S:(Sl Int)→Int→(Sl Int)):Prop:=∀ ⦃mv1:(Sl Int)⦄ ⦃iv1:Int⦄ ⦃zqk:Nat→List PV⦄,P mv1 iv1=true→K (e70 (S mv1 iv1))→zqk=zg enc_3 mv1→X (zDe x mv1 iv1 zqk)
section
variable {K:List PA→Prop} {x:(Sl (Sl Int))} {mv1:(Sl Int)} {iv1:Int} {zqk:Nat→List PV} {X1:St→Prop} {P1:(Sl Int)→Int→Bool} {S1:(Sl Int)→Int→(Sl Int)} {mv2:(Sl Int)} {iv2:Int} {zsx:Bool} {zI2:Nat→List PV}
def zyE (S1:(Sl Int)→Int→(Sl Int)) (x:(Sl (Sl Int))) (mv2:(Sl Int)) (iv2:Int) (zsx:Bool):(Sl Int) :=
  (cond zsx
 (S1 (x.get iv2.toNat) (w64 (iv2+(1:Int))))
 (S1 mv2 (w64 (iv2+(1:Int)))))
def zyF (P1:(Sl Int)→Int→Bool) (x:(Sl (Sl Int))) (mv2:(Sl Int)) (iv2:Int) (zsx:Bool):Bool :=
  (cond zsx
 (decide ((0≤iv2∧iv2 < (x.len:Int))) &&
 (P1 (x.get iv2.toNat) (w64 (iv2+(1:Int)))))
 (P1 mv2 (w64 (iv2+(1:Int)))))
theorem zFs (hX1:zFr K x X1 P1 S1) (hs:zyF P1 x mv2 iv2 zsx=true) (hk:K (e70 (zyE S1 x mv2 iv2 zsx))) (zK9:zI2=zg enc_3 mv2):z70 K [1,1,1,0,1,0,0,1,0,0,1] [X1] ⟨[(0,zS zck 1 x),(1,zP (.fn 71 [] [])),(5,zP (.sl mv2.len 1 zI2)),(6,zI iv2),(27,zB zsx)],[],[]⟩:=by subst zK9;exact zbm (by kernel_rfl) (zc hs hk (fun hs hk=>(za4 hs fun hc hs=>And.intro hc (hX1 hs hk rfl))) (fun hs hk=>(hX1 hs hk rfl)))
def zyG (x:(Sl (Sl Int))) (S1:(Sl Int)→Int→(Sl Int)) (mv1:(Sl Int)) (iv1:Int):(Sl Int) :=
  (cond (decide (iv1 < (x.len : Int)))
 (zyE S1 x mv1 iv1 (decide ((s71 (x.get iv1.toNat) mv1) < (0:Int))))
 mv1)
def zyH (x:(Sl (Sl Int))) (P1:(Sl Int)→Int→Bool) (mv1:(Sl Int)) (iv1:Int):Bool :=
  (cond (decide (iv1 < (x.len : Int)))
 (decide ((0≤iv1∧iv1 < (x.len:Int))) &&
 (decide ((p71 (x.get iv1.toNat) mv1=true)) &&
 (zyF P1 x mv1 iv1 (decide ((s71 (x.get iv1.toNat) mv1) < (0:Int))))))
 true)
def zyI (x:(Sl (Sl Int))):Nat→(Sl Int)→Int→(Sl Int):=lpO (fun _ _=>default) (zyG x)
def zyJ (x:(Sl (Sl Int))):Nat→(Sl Int)→Int→Bool:=lpO (fun _ _=>false) (zyH x)
def zyK (x:(Sl (Sl Int))) (mv1:(Sl Int)) (iv1:Int):(Sl Int):=zyI x Fuel mv1 iv1
def zyL (x:(Sl (Sl Int))) (mv1:(Sl Int)) (iv1:Int):Bool:=zyJ x Fuel mv1 iv1
theorem zFt (hs:zyL x mv1 iv1=true) (hk:K (e70 (zyK x mv1 iv1))) (zFu:zqk=zg enc_3 mv1):z70 K [1,1,1,0,1,0] [] (zDe x mv1 iv1 zqk) :=
  zl (fun X=>z70 K [1,1,1,0,1,0,0] [X]) (by kernel_rfl) fun X1 hX =>
  (show ∀ k, zFr K x X1 (zyJ x k) (zyI x k) from zjK _ _ (zyH x) (zyG x) (zFr K x X1)
 (by intro _ _ _ hs;exact absurd hs Bool.false_ne_true)
 (by intro P1 S1 hX1 mv1 iv1 zqk hs hk zFu;subst zFu;exact hX _ (zbm (by kernel_rfl) (zc hs hk (fun hs hk=>(za4 hs fun hc hs=>And.intro hc (za4 hs fun hc hs=>And.intro (And.intro (zE enc_3 1 ((x.get iv1.toNat).get)) (And.intro (zE enc_3 1 mv1.get) hc)) (zFs hX1 hs hk rfl)))) (fun hs hk=>hk))))) _ hs hk zFu
def zyM (x:(Sl (Sl Int))):(Sl Int) :=
  (zyK x (x.get 0) (1:Int))
def zyN (x:(Sl (Sl Int))):Bool :=
  (decide ((0≤(0:Int)∧(0:Int) < (x.len:Int))) &&
 (zyL x (x.get 0) (1:Int)))
theorem zFv (hs:zyN x=true) (hk:K (e70 (zyM x))):z70 K [1,1] [] ⟨[(0,zS zck 1 x),(1,zP (.fn 71 [] []))],[],[]⟩:=zbm (by kernel_rfl) (za4 hs fun hc hs=>And.intro hc (zFt hs hk rfl))
def s70 (x:(Sl (Sl Int))):(Sl Int) :=
  (cond (decide ((x.len : Int) < (1:Int)))
 default
 (zyM x))
def p70 (x:(Sl (Sl Int))):Bool :=
  (cond (decide ((x.len : Int) < (1:Int)))
 false
 (zyN x))
end
theorem q70 (x:(Sl (Sl Int))) (K:List PA→Prop) (hs:p70 x=true) (hk:K (e70 (s70 x))):vcFun Tryd.prog G70 zFq 70 [.one (.sl x.len 1 (fun i=>zck (x.get i))),.one (.fn 71 [] [])] K :=
  zbm (by kernel_rfl) (zc hs hk (fun hs hk=>(absurd hs Bool.false_ne_true:False)) (fun hs hk=>(zFv hs hk)))
def zFw : List PA → COut
  | [.one (.sl ze3 zlw ze4),.one (.fn 71 [] [])]=>.det (IsE zck 1 zlw ze4∧p70 (⟨ze3,znS ze4⟩:(Sl (Sl Int)))=true) [.one (.sl ((s70 (⟨ze3,znS ze4⟩:(Sl (Sl Int)))).len) 1 (fun i=>enc_3 ((s70 (⟨ze3,znS ze4⟩:(Sl (Sl Int)))).get i)))]
  | _=>.no
theorem zI3:zay Tryd.prog 70:=⟨_,rfl,rfl,by kernel_rfl⟩
theorem zMJ:Ok Tryd.prog 70 zFw:=zbY zK8 zI3 fun args K h=>by
  unfold zFw at h
  split at h
  · rename_i ze3 zlw ze4
    obtain ⟨⟨⟨rfl,zhq,rfl⟩,hs⟩,hk⟩:=h
    try rw [zk3 zhq] at hs
    try rw [zk3 zhq] at hk
    exact ⟨(fun _ _=>[]),(fun _=>false),zFq,q70 (⟨ze3,zhq⟩:(Sl (Sl Int))) K hs hk⟩
  · exact h.elim
end Go.Proofs
namespace Go.Pm
open Go.RowKit (Below)
section
variable (P:Program) (Γ:Ctrs)
def zuH (fi : FuncId) : Code → Option (Nat × Nat)
  | .region id ops false=>match ops.toList with
    | [o1,o2]=>match o1.op,o1.dst,o1.guard,o2.op,o2.dst,o2.guard with
      | .makeFunc (.func f) first caps,some t,none,.defer { callee:=.value (.tmp t'),args,argTypes:=_ },none,none=>match Nat.beq f fi && Nat.beq t t' && first.isEmpty && args.isEmpty && Nat.beq caps.size 2 with
        | true=>some (id,t)
        | false=>none
      | _,_,_,_,_,_=>none
    | _=>none
  | _=>none
def zCd (fi : FuncId) (ann : Ann) : Code → (Exit → St → Prop) → St → Prop
  | .seq a b,K,σ=>match zuH fi a with
    | some (id,t)=>match Nat.blt t ann.nt with
      | true=>zDJ P ann id (vc P Γ ann b K) ⟨(t,.junk) :: σ.env,σ.objs,[]⟩
      | false=>False
    | none=>vc P Γ ann a (zCH (zCd fi ann b K) K) σ
  | c,K,σ=>vc P Γ ann c K σ
def zuI (fi:FuncId) (ann:Ann) (f:FuncId) (args:List PA) (K:List PA→Prop):Prop :=
 match P.funcs[f]? with
 | some fn=>match fn.body with
  | some c=>match Nat.beq ann.nt fn.ntmps && Nat.ble args.length ann.nt with
   | true=>zCd P Γ fi ann c (zbn P fn K) ⟨zhK 0 args,[],[]⟩
   | false=>False
  | none=>False
 | none=>False
end
section
variable {P:Program} {Γ:Ctrs} {B:Nat} {w0:World}
theorem zm3 {fi:FuncId} {c:Code} {id t:Nat} (h:zuH fi c=some (id,t)):∃ (o1 o2:Oper) (caps:Array Operand) (ats:Array TypeId),c=.region id #[o1,o2] false∧caps.size=2∧o1.op=.makeFunc (.func fi) #[] caps∧o1.dst=some t∧o1.guard=none ∧
  o2.op=.defer { callee:=.value (.tmp t),args:=#[],argTypes:=ats }∧o2.dst=none∧o2.guard=none:=by
 unfold zuH at h
 split at h
 ·rename_i id' ops
  split at h
  ·rename_i o1 o2 hops
   split at h
   ·rename_i f first caps t' t2 args ats e1 e2 e3 e4 e5 e6
    split at h
    ·rename_i hc
     simp only [Bool.and_eq_true] at hc
     simp only [Option.some.injEq,Prod.mk.injEq] at h
     obtain ⟨rfl,rfl⟩:=h
     obtain ⟨⟨⟨⟨h1,h2⟩,h3⟩,h4⟩,h5⟩:=hc
     have h5:=Nat.eq_of_beq_eq_true h5
     have h1:=Nat.eq_of_beq_eq_true h1
     have h2:=Nat.eq_of_beq_eq_true h2
     have h3:first = #[]:=by simpa using h3
     have h4:args = #[]:=by simpa using h4
     subst h1 h2 h3 h4
     refine ⟨o1,o2,caps,ats,?_,h5,e1,e2,e3,e4,e5,e6⟩
     rw [← Array.toArray_toList (xs:=ops),hops]
    ·cases h
   ·cases h
  ·cases h
 ·cases h
theorem zvD {fi : FuncId} (hidle : ∀ caps : Array Value, caps.size = 2 → znh P { target := .fn (.func fi) caps, args := #[] }) {c : Code} {id t nt n : Nat} {h0 : Fz} {D : List Nat} {a0 a : Act} {σ : St} {g : Gh} {w : World} {Q : Exit → Act → World → Prop}
    (h:zuH fi c=some (id,t)) (ht:t < nt) (htD:t∈D) (S:Sim P nt B w0 h0 g σ a w) (hkp:Kp D a0 a)
    (hQ:∀ a',Sim P nt B w0 h0 g ⟨(t,.junk) :: σ.env,σ.objs,[]⟩ a' w→Kp D a0 a'→Q .normal a' w):c.wpIn (FR none) n P Q a w:=by
  obtain ⟨o1,o2,caps,ats,rfl,e0,e1,e2,e3,e4,e5,e6⟩:=zm3 h
  refine wpIn_region ?_
  show wpOpsIn (FR none) n P #[o1,o2] Q [0,1] a w
  have w1:∀ tm,Region.wanted o1 (yielded #[o1,o2] tm)=true:=fun tm=>by simp [Region.wanted,e3]
  have w2:∀ tm,Region.wanted o2 (yielded #[o1,o2] tm)=true:=fun tm=>by simp [Region.wanted,e6]
  have r1:(execOp a.eval o1).run P w=.ok (.value (.func (.func fi) #[] (caps.map a.eval))) w:=by
    simp only [execOp,e1,Instr.makeFunc,Sem.run_bind,Sem.run_pure,Result.andThen_ok];simp
  have ets:t < a.tmps.size:=Nat.lt_of_lt_of_le ht S.size
  have ev:(a.put (some t) (.func (.func fi) #[] (caps.map a.eval))).eval (.tmp t)=.func (.func fi) #[] (caps.map a.eval):=by
    simp [Act.put,Act.eval,Array.getD_eq_getD_getElem?,ets]
  have r2:(execOp (a.put (some t) (.func (.func fi) #[] (caps.map a.eval))).eval o2).run P w=.ok (.defer { target:=.fn (.func fi) (caps.map a.eval),args:=#[] }) w:=by
    simp only [execOp,e4,resolve,Sem.run_bind,ev,Deferred.ofValue,Sem.run_pure,Result.andThen_ok];simp
  show (if Region.wanted o1 (yielded #[o1,o2] a.tmps) then o1.wpIn (FR none) n P a w (wpOpsIn (FR none) n P #[o1,o2] Q [1]) Q else _)
  rw [if_pos (w1 _)]
  refine ⟨fun _ _=>trivial,?_⟩
  rw [show o1.semAt (FR none).round a.eval=execOp a.eval o1 from rfl,r1]
  show wpOpsIn (FR none) n P #[o1,o2] Q [1] (a.put o1.dst _) w
  rw [e2]
  show (if Region.wanted o2 (yielded #[o1,o2] (a.put (some t) _).tmps) then o2.wpIn (FR none) n P (a.put (some t) _) w (wpOpsIn (FR none) n P #[o1,o2] Q []) Q else _)
  rw [if_pos (w2 _)]
  refine ⟨fun _ _=>trivial,?_⟩
  have r3:Sem.run P (o2.semAt (FR none).round (a.put (some t) (.func (.func fi) #[] (caps.map a.eval))).eval) w=.ok (.defer { target:=.fn (.func fi) (caps.map a.eval),args:=#[] }) w:=r2
  rw [r3]
  have S1:=S.put (dst:=some t) (d:=.junk) (v:=.func (.func fi) #[] (caps.map a.eval)) (by simpa [zbL,Nat.blt_eq] using ht) trivial (fun L hL=>by simp [za5,zbu,zaJ] at hL) []
  refine hQ _ (S1.act ?_ ?_ ?_) ?_
  · obtain ⟨es, m1, m2, m3, m4⟩ := S1.dfr
    refine ⟨.inr { target:=.fn (.func fi) (caps.map a.eval),args:=#[] } :: es,m1,?_,fun E hE=>?_,fun d hd=>?_⟩
    · rw [e5,List.map_cons,← m2];rfl
    · rcases List.mem_cons.1 hE with e | hE
      · cases e
      · exact m3 E hE
    · rcases List.mem_cons.1 hd with e | hd
      · cases e;exact hidle _ (by simpa using e0)
      · exact m4 d hd
  · rw [e5];exact S1.size
  · rw [e5];exact S1.env
  · rw [e5]
    exact hkp.put (dst:=some t) (fun z hz=>by cases hz;exact htD) _ a.defers
theorem zyO (hok:OkAll P Γ) {fi:FuncId} (hidle:∀ caps:Array Value,caps.size=2→znh P { target:=.fn (.func fi) caps,args:=#[] }) (ann:Ann):∀ (c:Code) (n:Nat) (h0:Fz) (D:List Nat) (a0:Act) (K:Exit→St→Prop) (σ:St) (g:Gh) (a:Act) (w:World),
  (∀ t∈zhI c,t∈D)→zCd P Γ fi ann c K σ→Sim P ann.nt B w0 h0 g σ a w→Kp D a0 a→c.wpIn (FR none) n P (PostR P ann.nt B w0 h0 D a0 K) a w
 | .seq x y,n,h0,D,a0,K,σ,g,a,w,hD,h,S,hkp=>by
  have hDx:∀ t∈zhI x,t∈D:=fun t ht=>hD t (List.mem_append.2 (.inl ht))
  have hDy:∀ t∈zhI y,t∈D:=fun t ht=>hD t (List.mem_append.2 (.inr ht))
  simp only [zCd] at h
  split at h
  ·rename_i id t hdf
   split at h
   ·rename_i hlt
    have ht:t < ann.nt:=by simpa [Nat.blt_eq] using hlt
    have htD:t∈D:=by
     obtain ⟨o1,o2,caps,ats,rfl,_,_,e2,_,_,e5,_⟩:=zm3 hdf
     exact hDx t (by simp [zhI,zvU,e2])
    refine wpIn_seq (zvD hidle hdf ht htD S hkp fun a' S' hk'=>?_)
    have hk:∀ s g2,vc P Γ ann y K s→Sim P ann.nt B w0 h0 g2 s a' w→y.wpIn (FR none) n P (PostR P ann.nt B w0 h0 D a0 K) a' w:=fun s g2 hv S2=>zdC hok ann y none n h0 D a0 K s g2 a' w hDy (Rnd.none h0) hv S2 hk'
    unfold zDJ at h
    split at h
    ·split at h
     ·rename_i s hs
      obtain ⟨g2,S2⟩:=zbC hs S'
      exact hk s g2 h S2
     ·exact h.elim
    ·exact hk _ g h S'
   ·exact h.elim
  ·refine wpIn_seq (wpIn_mono (zdC hok ann x none n h0 D a0 _ σ g a w hDx (Rnd.none h0) h S hkp) ?_)
   rintro e a' w' ⟨g',σ',hK,S',hk'⟩
   cases e with
   | normal=>exact zyO hok hidle ann y n h0 D a0 K σ' g' a' w' hDy hK S' hk'
   | exit id=>exact ⟨g',σ',hK,S',hk'⟩
   | goto l=>exact ⟨g',σ',hK,S',hk'⟩
   | ret=>exact ⟨g',σ',hK,S',hk'⟩
   | panic ch=>exact ⟨g',σ',hK,S',hk'⟩
   | outgrown=>exact ⟨g',σ',hK,S',hk'⟩
 | .skip,n,h0,D,a0,K,σ,g,a,w,hD,h,S,hkp=>zdC hok ann .skip none n h0 D a0 K σ g a w hD (Rnd.none h0) h S hkp
 | .region i o d,n,h0,D,a0,K,σ,g,a,w,hD,h,S,hkp=>zdC hok ann (.region i o d) none n h0 D a0 K σ g a w hD (Rnd.none h0) h S hkp
 | .cond c x y,n,h0,D,a0,K,σ,g,a,w,hD,h,S,hkp=>zdC hok ann (.cond c x y) none n h0 D a0 K σ g a w hD (Rnd.none h0) h S hkp
 | .block i x,n,h0,D,a0,K,σ,g,a,w,hD,h,S,hkp=>zdC hok ann (.block i x) none n h0 D a0 K σ g a w hD (Rnd.none h0) h S hkp
 | .loop x,n,h0,D,a0,K,σ,g,a,w,hD,h,S,hkp=>zdC hok ann (.loop x) none n h0 D a0 K σ g a w hD (Rnd.none h0) h S hkp
 | .scope x,n,h0,D,a0,K,σ,g,a,w,hD,h,S,hkp=>zdC hok ann (.scope x) none n h0 D a0 K σ g a w hD (Rnd.none h0) h S hkp
 | .exit i,n,h0,D,a0,K,σ,g,a,w,hD,h,S,hkp=>zdC hok ann (.exit i) none n h0 D a0 K σ g a w hD (Rnd.none h0) h S hkp
 | .goto i,n,h0,D,a0,K,σ,g,a,w,hD,h,S,hkp=>zdC hok ann (.goto i) none n h0 D a0 K σ g a w hD (Rnd.none h0) h S hkp
 | .label i,n,h0,D,a0,K,σ,g,a,w,hD,h,S,hkp=>zdC hok ann (.label i) none n h0 D a0 K σ g a w hD (Rnd.none h0) h S hkp
 | .ret,n,h0,D,a0,K,σ,g,a,w,hD,h,S,hkp=>zdC hok ann .ret none n h0 D a0 K σ g a w hD (Rnd.none h0) h S hkp
 | .rangeFunc f p x y,n,h0,D,a0,K,σ,g,a,w,hD,h,S,hkp=>zdC hok ann (.rangeFunc f p x y) none n h0 D a0 K σ g a w hD (Rnd.none h0) h S hkp
 | .refuse x,n,h0,D,a0,K,σ,g,a,w,hD,h,S,hkp=>zdC hok ann (.refuse x) none n h0 D a0 K σ g a w hD (Rnd.none h0) h S hkp
theorem zCe {G : Ctrs} (hok : OkAll P G) {f fi : FuncId} (hidle : ∀ caps : Array Value, caps.size = 2 → znh P { target := .fn (.func fi) caps, args := #[] }) {args : List PA} {K : List PA → Prop} {ann : Ann} (hv : zuI P G fi ann f args K) {w : World} {h0 : Fz} {vs : List Value} (hvs : RL (paR h0) args vs) (hfz : Hw h0 w) (hgl : zeh h0) :
  Calls P f vs.toArray w fun e w'=>∃ (h':Fz) (rs:List PA) (v:Value),K rs∧e=.returned v∧zoQ h' rs v∧Bel h0 w.heap.size w w' ∧
   Fle h0 h'∧Hw h' w'∧∀ b o,h' b=some o→h0 b=some o∨w.heap.size≤b:=by
 unfold zuI at hv
 split at hv
 ·rename_i fn hfn
  split at hv
  ·rename_i c hbody
   split at hv
   ·rename_i hnt
    simp only [Bool.and_eq_true,Nat.ble_eq] at hnt
    have S:=zkX (P:=P) (Nat.eq_of_beq_eq_true hnt.1) hnt.2 hvs hfz hgl
    have hwp:=zyO (B:=w.heap.size) (w0:=w) hok hidle ann c 0 h0 (zhI c) _ _ _ _ _ _ (fun _ h=>h) hv S (Kp.refl _ _)
    refine (callsIn_wide (n:=0)).1 ?_
    refine callsIn_of_wp_marks (F:=FR none) hfn hbody trivial (wpIn_mono hwp ?_)
    have h0b:∀ b,h0 b=some (.fz (.deferred (some [])))→b < w.heap.size:=fun b h=>hfz.lt h
    rintro e a' w' ⟨g',σ',hK',S',_⟩
    have fin:zHo P fn K σ'→LeavesInM (FR none) 0 P fn a'.tmps (fun e w'=>∃ (h':Fz) (rs:List PA) (v:Value),K rs∧e=.returned v∧zoQ h' rs v∧Bel h0 w.heap.size w w' ∧
      Fle h0 h'∧Hw h' w'∧∀ b o,h' b=some o→h0 b=some o∨w.heap.size≤b) a'.defers .returning w':=by
     intro hf
     obtain ⟨Ds,h1,h2,h3,h4⟩:=S'.dfr
     refine zkW h0b Ds g' a' w' h1 h2 h3 h4 S' fun g2 a2 w2 _ S2=>?_
     unfold zHo at hf
     split at hf
     ·rename_i l hl
      obtain ⟨u,v,hu,hrun,hres⟩:=zkV S2 hl
      obtain ⟨h',S3,F⟩:=S2.freeze hu
      exact ⟨v,hrun,h',l,v,hf,rfl,hres h' F,S3.below,S3.le0,S3.hw,S3.hn⟩
     ·exact hf.elim
    cases e with
    | normal=>exact fin hK'
    | ret=>exact fin hK'
    | exit id=>exact hK'.elim
    | goto l=>exact hK'.elim
    | panic ch=>exact hK'.elim
    | outgrown=>exact hK'.elim
   ·exact hv.elim
  ·exact hv.elim
 ·exact hv.elim
theorem zCf {T : Tabs} (hT : TabsOk P T) {f fi : FuncId} {C : List PA → COut} (hc : zay P f) (hidle : ∀ caps : Array Value, caps.size = 2 → znh P { target := .fn (.func fi) caps, args := #[] })
    (h:∀ args K,(C args).wp K→∃ args',RL PAle args args'∧∃ memo vv ann,zuI P (csm T memo vv) fi ann f args' (Wk K)):Ok P f C:=by
  intro args K hK w h0 vs hvs hfz hgl
  obtain ⟨args',hle,memo,vv,ann,hv⟩:=h args K hK
  refine ⟨hc,(zCe (hT.all memo vv) hidle hv (zxk (R:=paR h0) (S:=PAle) (T:=paR h0) (fun _ _ _ e r=>zBH e r) _ _ _ hle hvs) hfz hgl).mono ?_⟩
  rintro e w' ⟨h',rs,v,⟨rs',hr,hk⟩,he,hres,rest⟩
  exact ⟨h',rs',v,hk,he,zxl hr hres,rest⟩
end
end Go.Pm
namespace Go.Pm
open Go Go.Proofs
set_option maxRecDepth 100000
theorem zI4:∀ caps:Array Value,caps.size=2→znh Tryd.prog { target:=.fn (.func 68) caps,args:=#[] }:=fun caps hc=>by
 match caps,hc with
 | ⟨[x,y]⟩,_ =>
 refine ⟨.func 68,#[x,y],68,#[x,y],rfl,fun w=>?_,fun n w=>?_⟩
 ·have h : zay Tryd.prog 68 := ⟨_, rfl, rfl, by kernel_rfl⟩
  show (callFunc 68 (#[] ++ #[x,y])).run Tryd.prog w=_
  exact zcq h
 have key:CallsDIn { fn:=fun _=>True,depth:=none,alive:=false,round:=none } n Tryd.prog 68 #[x,y] .returning w fun e u' w'=>e=.returned (.tuple #[])∧u'=.returning∧w'=w:=by
  refine callsDIn_of_wpSIn Tryd.func68 rfl trivial fun c₀ cs hu=>?_
  apply wpSIn_seq
  apply wpSIn_region
  simp [wpOpsSIn,go_sem,recoverD,hu,Tryd.ntmps68,Exit.thenS]
  apply wpSIn_seq
  apply wpSIn_region
  simp [wpOpsSIn,go_sem,recoverD,hu,Tryd.ntmps68,Exit.thenS]
  refine wpSIn_cond (t:=false) (by simp [Act.eval,Array.replicate]) ?_
  simp only [Bool.false_eq_true,if_false]
  refine wpSIn_of_wpIn rfl (wpIn_skip ?_)
  cases c₀
  simp_all [bodyPostS,results,Tryd.results68]
 exact key.mono fun e u' w' h=>⟨⟨_,h.1⟩,h.2⟩
end Go.Pm
namespace Go.Proofs
open Go Go.Pm
set_option maxRecDepth 100000
set_option linter.unusedVariables false
attribute [local irreducible] Go.Pm.vcFun Go.Pm.vc Go.Pm.vcIter
abbrev T22:Tabs:=(((Tabs.nil.addF 67 zrk).addM 69 zIZ).addF 70 zFw)
theorem zLa:TabsOk Tryd.prog T22:=(((TabsOk.nil.addF zIn).addM zMH).addF zMJ)
abbrev G22:Ctrs:=csm T22 (fun _ _=>[]) (fun l=>Nat.beq l 12)
def zFx:Ann:=⟨29,[(0,zK [1,2,3] [1,2,3]),(1,zK [1,2,3,9] [1,2,3]),(2,zK [2,3] [2,3]),(3,zK [1,2,3] [1,2,3]),(4,zK [2,3,4] [2,3,12,14]),(5,zK [2,3,4,15] [2,3,12,14]),(6,zK [2,3,4,15,16] [2,3,12,14]),(7,zK [2,3,4,5,15] [2,3,12,14]),(8,zK [2,3,4,6,15] [2,3,12,14]),(9,zK [2,3,4,6,15,23] [2,3,12,14]),(10,zK [2,3] [2,3]),(11,zK [2,3,4,15] [2,3,12,14])],
 [(6,zK [2,3,4,15] [2,3,12,14])],
 [],
 [],[]⟩
abbrev R22:=((Sl Int)×Int)
abbrev e22 (r:R22):List PA:=[.one (.sl r.1.len 1 (fun i=>enc_3 (r.1.get i))),.one (.int .i64 r.2)]
@[irreducible] def z22:=ptF Tryd.prog G22 zFx Tryd.f22
def zDf (zbv:Int) (zbz:Int) (zbr:(Sl Tie)) (zbA:Nat) (zbB:(List Int→Option (List Int))) (zdu:Nat→List PV):St:=⟨[(2,zp 2 0),(3,zp 3 0),(4,zp 14 0),(15,zI zbv)],[(2,.box 27 [.p (.nils)]),(3,.box 28 [zi (0:Int)]),(12,.mo 3 4 (false,1,false,[none]) zbA zbB),(14,.box 105 [zi zbz,.p (.sl zbr.len 4 zdu),.mo 12])],[]⟩
abbrev zI5 (K:List PA→Prop) (X:St→Prop) (P:Int→Int→(Sl Tie)→Nat→(List Int→Option (List Int))→Bool) (S:Int→Int→(Sl Tie)→Nat→(List Int→Option (List Int))→((Sl Int)×Int)):Prop:=∀ ⦃zbv:Int⦄ ⦃zbz:Int⦄ ⦃zbr:(Sl Tie)⦄ ⦃zbA:Nat⦄ ⦃zbB:(List Int→Option (List Int))⦄ ⦃zdu:Nat→List PV⦄,P zbv zbz zbr zbA zbB=true→K (e22 (S zbv zbz zbr zbA zbB))→zdu=zg zai zbr→X (zDf zbv zbz zbr zbA zbB zdu)
section
variable {K:List PA→Prop} {n:Net} {zbv:Int} {zbz:Int} {zbr:(Sl Tie)} {zbA:Nat} {zbB:(List Int→Option (List Int))} {zdu:Nat→List PV} {X0:St→Prop} {P0:Int→Int→(Sl Tie)→Nat→(List Int→Option (List Int))→Bool} {S0:Int→Int→(Sl Tie)→Nat→(List Int→Option (List Int))→((Sl Int)×Int)}
def zyP (S0:Int→Int→(Sl Tie)→Nat→(List Int→Option (List Int))→((Sl Int)×Int)) (zbv:Int) (zbz:Int) (zbr:(Sl Tie)) (zbA:Nat) (zbB:(List Int→Option (List Int))):((Sl Int)×Int) :=
  (cond (decide (zbv < (4:Int)))
 (cond (decide ((((s69 (⟨(⟨zbz, zbr⟩ : Net), (⟨zbA, zbB⟩ : Mp)⟩ : web) zbv).1).len : Int) > (0:Int)))
 ((s70 ((s69 (⟨(⟨zbz,zbr⟩:Net),(⟨zbA,zbB⟩:Mp)⟩:web) zbv).1)),(0:Int))
 (S0 (w64 (zbv+(1:Int))) (((s69 (⟨(⟨zbz,zbr⟩:Net),(⟨zbA,zbB⟩:Mp)⟩:web) zbv).2).Net.Nodes) (((s69 (⟨(⟨zbz,zbr⟩:Net),(⟨zbA,zbB⟩:Mp)⟩:web) zbv).2).Net.Ties) ((((s69 (⟨(⟨zbz,zbr⟩:Net),(⟨zbA,zbB⟩:Mp)⟩:web) zbv).2).out).n) ((((s69 (⟨(⟨zbz,zbr⟩:Net),(⟨zbA,zbB⟩:Mp)⟩:web) zbv).2).out).F)))
 default)
def zyQ (P0:Int→Int→(Sl Tie)→Nat→(List Int→Option (List Int))→Bool) (zbv:Int) (zbz:Int) (zbr:(Sl Tie)) (zbA:Nat) (zbB:(List Int→Option (List Int))):Bool :=
  (cond (decide (zbv < (4:Int)))
 (decide ((p69 (⟨(⟨zbz,zbr⟩:Net),(⟨zbA,zbB⟩:Mp)⟩:web) zbv=true)) &&
 (cond (decide ((((s69 (⟨(⟨zbz, zbr⟩ : Net), (⟨zbA, zbB⟩ : Mp)⟩ : web) zbv).1).len : Int) > (0:Int)))
 (decide ((p70 ((s69 (⟨(⟨zbz,zbr⟩:Net),(⟨zbA,zbB⟩:Mp)⟩:web) zbv).1)=true)) &&
 true)
 (P0 (w64 (zbv+(1:Int))) (((s69 (⟨(⟨zbz,zbr⟩:Net),(⟨zbA,zbB⟩:Mp)⟩:web) zbv).2).Net.Nodes) (((s69 (⟨(⟨zbz,zbr⟩:Net),(⟨zbA,zbB⟩:Mp)⟩:web) zbv).2).Net.Ties) ((((s69 (⟨(⟨zbz,zbr⟩:Net),(⟨zbA,zbB⟩:Mp)⟩:web) zbv).2).out).n) ((((s69 (⟨(⟨zbz,zbr⟩:Net),(⟨zbA,zbB⟩:Mp)⟩:web) zbv).2).out).F))))
 false)
def zyR:Nat→Int→Int→(Sl Tie)→Nat→(List Int→Option (List Int))→((Sl Int)×Int):=lpO (fun _ _ _ _ _=>default) (zyP)
def zyS:Nat→Int→Int→(Sl Tie)→Nat→(List Int→Option (List Int))→Bool:=lpO (fun _ _ _ _ _=>false) (zyQ)
def zyT (zbv:Int) (zbz:Int) (zbr:(Sl Tie)) (zbA:Nat) (zbB:(List Int→Option (List Int))):((Sl Int)×Int):=zyR Fuel zbv zbz zbr zbA zbB
def zyU (zbv:Int) (zbz:Int) (zbr:(Sl Tie)) (zbA:Nat) (zbB:(List Int→Option (List Int))):Bool:=zyS Fuel zbv zbz zbr zbA zbB
theorem zFy (hs:zyU zbv zbz zbr zbA zbB=true) (hk:K (e22 (zyT zbv zbz zbr zbA zbB))) (zl0:zdu=zg zai zbr):z22 (Wk K) [1,1,1,1,0,1,0] [] (zDf zbv zbz zbr zbA zbB zdu) :=
  zl (fun X=>z22 (Wk K) [1,1,1,1,0,1,0,0] [X]) (by kernel_rfl) fun X0 hX =>
  (show ∀ k, zI5 K X0 (zyS k) (zyR k) from zjK _ _ (zyQ) (zyP) (zI5 K X0)
 (by intro _ _ _ _ _ _ hs;exact absurd hs Bool.false_ne_true)
 (by intro P0 S0 hX0 zbv zbz zbr zbA zbB zdu hs hk zl0;subst zl0;exact hX _ (zbm (by kernel_rfl) (zc hs hk (fun hs hk=>(za4 hs fun hc hs=>And.intro (And.intro (zE zai 4 zbr.get) (And.intro (rfl:((false,1,false,[none]):MQ)=(false,1,false,[none])) hc)) (zc hs hk (fun hs hk=>(za4 hs fun hc hs=>And.intro (And.intro (zE zck 1 (((s69 (⟨(⟨zbz,zbr⟩:Net),(⟨zbA,zbB⟩:Mp)⟩:web) zbv).1).get)) hc) ((zfX hk):Wk K [.one (.sl ((s70 ((s69 (⟨(⟨zbz,zbr⟩:Net),(⟨zbA,zbB⟩:Mp)⟩:web) zbv).1)).len) 1 (fun i=>enc_3 ((s70 ((s69 (⟨(⟨zbz,zbr⟩:Net),(⟨zbA,zbB⟩:Mp)⟩:web) zbv).1)).get i))),.one (.int .i64 (0:Int))]))) (fun hs hk=>(hX0 hs hk rfl))))) (fun hs hk=>(absurd hs Bool.false_ne_true:False)))))) _ hs hk zl0
def s22 (n:Net):((Sl Int)×Int) :=
  (cond (!(s67 n))
 ((⟨0,fun _=>default⟩:(Sl Int)),(2:Int))
 (zyT (0:Int) n.Nodes n.Ties 0 (fun _=>none)))
def p22 (n:Net):Bool :=
  (decide ((p67 n=true)) &&
 (cond (!(s67 n))
 true
 (zyU (0:Int) n.Nodes n.Ties 0 (fun _=>none))))
end
theorem q22 (n:Net) (K:List PA→Prop) (hs:p22 n=true) (hk:K (e22 (s22 n))):zuI Tryd.prog G22 68 zFx 22 [.agg (zb5 n)] (Wk K) :=
  zbm (by kernel_rfl) (za4 hs fun hc hs=>And.intro (And.intro (zE zai 4 n.Ties.get) hc) (zc hs hk (fun hs hk=>((wk hk (ze2 (.one (.nil _ _)) (ze2 (.one (.rfl _)) zmh))):Wk K [.one (.nils),.one (.int .i64 (2:Int))])) (fun hs hk=>(zFy hs hk rfl))))
def zFz : List PA → COut
  | [.agg [.int .i64 zan,.sl zaj zaR zah]]=>.det (IsE zai 4 zaR zah∧p22 (⟨zan,(⟨zaj,zat zah⟩:(Sl Tie))⟩:Net)=true) [.one (.sl (((s22 (⟨zan,(⟨zaj,zat zah⟩:(Sl Tie))⟩:Net)).1).len) 1 (fun i=>enc_3 (((s22 (⟨zan,(⟨zaj,zat zah⟩:(Sl Tie))⟩:Net)).1).get i))),.one (.int .i64 ((s22 (⟨zan,(⟨zaj,zat zah⟩:(Sl Tie))⟩:Net)).2))]
  | _=>.no
theorem zI6:zay Tryd.prog 22:=⟨_,rfl,rfl,by kernel_rfl⟩
theorem zMK:Ok Tryd.prog 22 zFz:=zCf zLa zI6 zI4 fun args K h=>by
  unfold zFz at h
  split at h
  · rename_i zan zaj zaR zah
    obtain ⟨⟨⟨rfl,zaH,rfl⟩,hs⟩,hk⟩:=h
    try rw [zav zaH] at hs
    try rw [zav zaH] at hk
    exact ⟨_,zfy zfW _,(fun _ _=>[]),(fun l=>Nat.beq l 12),zFx,q22 (⟨zan,(⟨zaj,zaH⟩:(Sl Tie))⟩:Net) K hs hk⟩
  · exact h.elim
abbrev T25:Tabs:=Tabs.nil
theorem zLb:TabsOk Tryd.prog T25:=TabsOk.nil
abbrev G25:Ctrs:=csm T25 (fun _ _=>[]) (fun _=>false)
def zFA:Ann:=⟨26,[(0,zK [0,1] []),(1,zK [0,1,10] []),(2,zK [4] []),(3,zK [0,1,5] []),(4,zK [0,1,5,14] []),(5,zK [0,1,5] []),(6,zK [0,1,5,25] []),(7,zK [4] []),(8,zK [4] [])],
 [(4,zK [0,1,5] [])],
 [(3,zK [0,1] [])],
 [],[]⟩
abbrev R25:=Bool
abbrev e25 (r:R25):List PA:=[.one (.bool r)]
@[irreducible] def z25:=ptF Tryd.prog G25 zFA Tryd.f25
def zDg (a:(Sl Int)) (b:(Sl Int)) (iv1:Int):St:=⟨[(0,zS enc_3 1 a),(1,zS enc_3 1 b),(5,zI iv1)],[],[]⟩
abbrev zI7 (K:List PA→Prop) (a:(Sl Int)) (b:(Sl Int)) (X:St→Prop) (P:Int→Bool) (S:Int→Bool):Prop:=∀ ⦃iv1:Int⦄,P iv1=true→K (e25 (S iv1))→X (zDg a b iv1)
section
variable {K:List PA→Prop} {a:(Sl Int)} {b:(Sl Int)} {iv1:Int} {X1:St→Prop} {P1:Int→Bool} {S1:Int→Bool}
def zyV (a:(Sl Int)) (b:(Sl Int)) (S1:Int→Bool) (iv1:Int):Bool :=
  (cond (decide (iv1 < (a.len : Int)))
 (cond ((a.get iv1.toNat) != (b.get iv1.toNat))
 false
 (S1 (w64 (iv1+(1:Int)))))
 true)
def zyW (a:(Sl Int)) (b:(Sl Int)) (P1:Int→Bool) (iv1:Int):Bool :=
  (cond (decide (iv1 < (a.len : Int)))
 (decide ((0≤iv1∧iv1 < (a.len:Int))) &&
 (decide ((0≤iv1∧iv1 < (b.len:Int))) &&
 (cond ((a.get iv1.toNat) != (b.get iv1.toNat))
 true
 (P1 (w64 (iv1+(1:Int)))))))
 true)
def zyX (a:(Sl Int)) (b:(Sl Int)):Nat→Int→Bool:=lpO (fun _=>default) (zyV a b)
def zyY (a:(Sl Int)) (b:(Sl Int)):Nat→Int→Bool:=lpO (fun _=>false) (zyW a b)
def zyZ (a:(Sl Int)) (b:(Sl Int)) (iv1:Int):Bool:=zyX a b Fuel iv1
def zy0 (a:(Sl Int)) (b:(Sl Int)) (iv1:Int):Bool:=zyY a b Fuel iv1
theorem zFB (hs:zy0 a b iv1=true) (hk:K (e25 (zyZ a b iv1))):z25 K [1,1,0,1,0] [] (zDg a b iv1) :=
  zl (fun X=>z25 K [1,1,0,1,0,0] [X]) (by kernel_rfl) fun X1 hX =>
  (show ∀ k, zI7 K a b X1 (zyY a b k) (zyX a b k) from zjK _ _ (zyW a b) (zyV a b) (zI7 K a b X1)
 (by intro _ hs;exact absurd hs Bool.false_ne_true)
 (by intro P1 S1 hX1 iv1 hs hk;exact hX _ (zbm (by kernel_rfl) (zc hs hk (fun hs hk=>(za4 hs fun hc hs=>And.intro hc (za4 hs fun hc hs=>And.intro hc (zc hs hk (fun hs hk=>hk) (fun hs hk=>(hX1 hs hk)))))) (fun hs hk=>hk))))) _ hs hk
def zy1 (a:(Sl Int)) (b:(Sl Int)):Bool :=
  (zyZ a b (0:Int))
def zy2 (a:(Sl Int)) (b:(Sl Int)):Bool :=
  (zy0 a b (0:Int))
theorem zFC (hs:zy2 a b=true) (hk:K (e25 (zy1 a b))):z25 K [1,1] [] ⟨[(0,zS enc_3 1 a),(1,zS enc_3 1 b)],[],[]⟩:=zbm (by kernel_rfl) (zFB hs hk)
def s25 (a:(Sl Int)) (b:(Sl Int)):Bool :=
  (cond ((a.len : Int) != (b.len : Int))
 false
 (zy1 a b))
def p25 (a:(Sl Int)) (b:(Sl Int)):Bool :=
  (cond ((a.len : Int) != (b.len : Int))
 true
 (zy2 a b))
end
theorem q25 (a:(Sl Int)) (b:(Sl Int)) (K:List PA→Prop) (hs:p25 a b=true) (hk:K (e25 (s25 a b))):vcFun Tryd.prog G25 zFA 25 [.one (.sl a.len 1 (fun i=>enc_3 (a.get i))),.one (.sl b.len 1 (fun i=>enc_3 (b.get i)))] K :=
  zbm (by kernel_rfl) (zc hs hk (fun hs hk=>hk) (fun hs hk=>(zFC hs hk)))
def zFD : List PA → COut
  | [.one (.sl ze3 zlw ze4),.one (.sl zc1 zfK zcZ)]=>.det (IsE enc_3 1 zlw ze4∧IsE enc_3 1 zfK zcZ∧p25 (⟨ze3,zax ze4⟩:(Sl Int)) (⟨zc1,zax zcZ⟩:(Sl Int))=true) [.one (.bool (s25 (⟨ze3,zax ze4⟩:(Sl Int)) (⟨zc1,zax zcZ⟩:(Sl Int))))]
  | _=>.no
theorem zI8:zay Tryd.prog 25:=⟨_,rfl,rfl,by kernel_rfl⟩
theorem zML:Ok Tryd.prog 25 zFD:=zbY zLb zI8 fun args K h=>by
  unfold zFD at h
  split at h
  · rename_i ze3 zlw ze4 zc1 zfK zcZ
    obtain ⟨⟨⟨rfl,zhq,rfl⟩,⟨rfl,zd5,rfl⟩,hs⟩,hk⟩:=h
    try rw [zbe zhq] at hs
    try rw [zbe zhq] at hk
    try rw [zbe zd5] at hs
    try rw [zbe zd5] at hk
    exact ⟨(fun _ _=>[]),(fun _=>false),zFA,q25 (⟨ze3,zhq⟩:(Sl Int)) (⟨zc1,zd5⟩:(Sl Int)) K hs hk⟩
  · exact h.elim
abbrev T29:Tabs:=Tabs.nil
theorem zLc:TabsOk Tryd.prog T29:=TabsOk.nil
abbrev G29:Ctrs:=csm T29 (fun _ _=>[]) (fun _=>false)
def zI9:Ann:=⟨13,[(0,zK [2,3,4] [2,3,4]),(1,zK [2,4] [2,4,7]),(2,zK [4] [4,7])],
 [],
 [],
 [],[]⟩
abbrev R29:=Net
abbrev e29 (r:R29):List PA:=[.agg [.int .i64 r.Nodes,.sl r.Ties.len 4 (fun i=>zai (r.Ties.get i))]]
section
variable {K:List PA→Prop} {n:Net} {t:Tie}
def s29 (n:Net) (t:Tie):Net :=
  (⟨n.Nodes,(⟨(n.Ties.len+1),(zjZ n.Ties.len n.Ties.get (fun _=>t))⟩:(Sl Tie))⟩:Net)
def p29 (n:Net) (t:Tie):Bool :=
  (decide ((n.Ties.len * 32≤140737488355328∧n.Ties.len≤9223372036854775807)) &&
 (decide (((n.Ties.len+1) * 32≤140737488355328∧n.Ties.len+1≤9223372036854775807)) &&
 true))
end
theorem q29 (n:Net) (t:Tie) (K:List PA→Prop) (hs:p29 n t=true) (hk:K (e29 (s29 n t))):vcFun Tryd.prog G29 zI9 29 [.agg (zb5 n),.agg (zai t)] K :=
  zbm (by kernel_rfl) (za4 hs fun hc hs=>And.intro hc (za4 hs fun hc hs=>And.intro hc (Eq.mpr (congrArg K (congrArg (fun (g_:Nat→List PV)=>([.agg [.int .i64 n.Nodes,.sl (n.Ties.len+1) 4 g_]]:List PA)) (zk2 (enc:=zai) (f:=n.Ties.get) (h:=(fun _=>t)) rfl rfl))) hk)))
def zFE : List PA → COut
  | [.agg [.int .i64 zan,.sl zaj zaR zah],.agg [.int .i64 ziU,.int .i64 zvE,.int .i64 zm4,.int .i64 ziV]]=>.det (IsE zai 4 zaR zah∧p29 (⟨zan,(⟨zaj,zat zah⟩:(Sl Tie))⟩:Net) (⟨ziU,zvE,zm4,ziV⟩:Tie)=true) [.agg [.int .i64 ((s29 (⟨zan,(⟨zaj,zat zah⟩:(Sl Tie))⟩:Net) (⟨ziU,zvE,zm4,ziV⟩:Tie)).Nodes),.sl ((s29 (⟨zan,(⟨zaj,zat zah⟩:(Sl Tie))⟩:Net) (⟨ziU,zvE,zm4,ziV⟩:Tie)).Ties.len) 4 (fun i=>zai ((s29 (⟨zan,(⟨zaj,zat zah⟩:(Sl Tie))⟩:Net) (⟨ziU,zvE,zm4,ziV⟩:Tie)).Ties.get i))]]
  | _=>.no
theorem zJa:zay Tryd.prog 29:=⟨_,rfl,rfl,by kernel_rfl⟩
theorem zMM:Ok Tryd.prog 29 zFE:=zbY zLc zJa fun args K h=>by
  unfold zFE at h
  split at h
  · rename_i zan zaj zaR zah ziU zvE zm4 ziV
    obtain ⟨⟨⟨rfl,zaH,rfl⟩,hs⟩,hk⟩:=h
    try rw [zav zaH] at hs
    try rw [zav zaH] at hk
    exact ⟨(fun _ _=>[]),(fun _=>false),zI9,q29 (⟨zan,(⟨zaj,zaH⟩:(Sl Tie))⟩:Net) (⟨ziU,zvE,zm4,ziV⟩:Tie) K hs hk⟩
  · exact h.elim
abbrev T32:Tabs:=Tabs.nil
theorem zLd:TabsOk Tryd.prog T32:=TabsOk.nil
abbrev G32:Ctrs:=csm T32 (fun _ _=>[]) (fun _=>false)
def zFF:Ann:=⟨26,[(0,zK [0,1] []),(1,zK [0,1,10] []),(2,zK [4] []),(3,zK [0,1,5] []),(4,zK [0,1,5,14] []),(5,zK [0,1,5] []),(6,zK [0,1,5,25] []),(7,zK [4] []),(8,zK [4] [])],
 [(4,zK [0,1,5] [])],
 [(3,zK [0,1] [])],
 [],[]⟩
abbrev R32:=Bool
abbrev e32 (r:R32):List PA:=[.one (.bool r)]
@[irreducible] def z32:=ptF Tryd.prog G32 zFF Tryd.f32
def zDh (a:(Sl Span)) (b:(Sl Span)) (iv1:Int):St:=⟨[(0,zS zbG 2 a),(1,zS zbG 2 b),(5,zI iv1)],[],[]⟩
abbrev zJb (K:List PA→Prop) (a:(Sl Span)) (b:(Sl Span)) (X:St→Prop) (P:Int→Bool) (S:Int→Bool):Prop:=∀ ⦃iv1:Int⦄,P iv1=true→K (e32 (S iv1))→X (zDh a b iv1)
section
variable {K:List PA→Prop} {a:(Sl Span)} {b:(Sl Span)} {iv1:Int} {X1:St→Prop} {P1:Int→Bool} {S1:Int→Bool}
def zy3 (a:(Sl Span)) (b:(Sl Span)) (S1:Int→Bool) (iv1:Int):Bool :=
  (cond (decide (iv1 < (a.len : Int)))
 (cond (!(match ((a.get iv1.toNat).Low == (b.get iv1.toNat).Low) with | true => (match ((a.get iv1.toNat).High == (b.get iv1.toNat).High) with | true => true | false => false) | false => false))
 false
 (S1 (w64 (iv1+(1:Int)))))
 true)
def zy4 (a:(Sl Span)) (b:(Sl Span)) (P1:Int→Bool) (iv1:Int):Bool :=
  (cond (decide (iv1 < (a.len : Int)))
 (decide ((0≤iv1∧iv1 < (a.len:Int))) &&
 (decide ((0≤iv1∧iv1 < (b.len:Int))) &&
 (cond (!(match ((a.get iv1.toNat).Low == (b.get iv1.toNat).Low) with | true => (match ((a.get iv1.toNat).High == (b.get iv1.toNat).High) with | true => true | false => false) | false => false))
 true
 (P1 (w64 (iv1+(1:Int)))))))
 true)
def zy5 (a:(Sl Span)) (b:(Sl Span)):Nat→Int→Bool:=lpO (fun _=>default) (zy3 a b)
def zy6 (a:(Sl Span)) (b:(Sl Span)):Nat→Int→Bool:=lpO (fun _=>false) (zy4 a b)
def zy7 (a:(Sl Span)) (b:(Sl Span)) (iv1:Int):Bool:=zy5 a b Fuel iv1
def zy8 (a:(Sl Span)) (b:(Sl Span)) (iv1:Int):Bool:=zy6 a b Fuel iv1
theorem zFG (hs:zy8 a b iv1=true) (hk:K (e32 (zy7 a b iv1))):z32 K [1,1,0,1,0] [] (zDh a b iv1) :=
  zl (fun X=>z32 K [1,1,0,1,0,0] [X]) (by kernel_rfl) fun X1 hX =>
  (show ∀ k, zJb K a b X1 (zy6 a b k) (zy5 a b k) from zjK _ _ (zy4 a b) (zy3 a b) (zJb K a b X1)
 (by intro _ hs;exact absurd hs Bool.false_ne_true)
 (by intro P1 S1 hX1 iv1 hs hk;exact hX _ (zbm (by kernel_rfl) (zc hs hk (fun hs hk=>(za4 hs fun hc hs=>And.intro hc (za4 hs fun hc hs=>And.intro hc (zc hs hk (fun hs hk=>hk) (fun hs hk=>(hX1 hs hk)))))) (fun hs hk=>hk))))) _ hs hk
def zy9 (a:(Sl Span)) (b:(Sl Span)):Bool :=
  (zy7 a b (0:Int))
def zza (a:(Sl Span)) (b:(Sl Span)):Bool :=
  (zy8 a b (0:Int))
theorem zFH (hs:zza a b=true) (hk:K (e32 (zy9 a b))):z32 K [1,1] [] ⟨[(0,zS zbG 2 a),(1,zS zbG 2 b)],[],[]⟩:=zbm (by kernel_rfl) (zFG hs hk)
def s32 (a:(Sl Span)) (b:(Sl Span)):Bool :=
  (cond ((a.len : Int) != (b.len : Int))
 false
 (zy9 a b))
def p32 (a:(Sl Span)) (b:(Sl Span)):Bool :=
  (cond ((a.len : Int) != (b.len : Int))
 true
 (zza a b))
end
theorem q32 (a:(Sl Span)) (b:(Sl Span)) (K:List PA→Prop) (hs:p32 a b=true) (hk:K (e32 (s32 a b))):vcFun Tryd.prog G32 zFF 32 [.one (.sl a.len 2 (fun i=>zbG (a.get i))),.one (.sl b.len 2 (fun i=>zbG (b.get i)))] K :=
  zbm (by kernel_rfl) (zc hs hk (fun hs hk=>hk) (fun hs hk=>(zFH hs hk)))
def zFI : List PA → COut
  | [.one (.sl ze3 zlw ze4),.one (.sl zc1 zfK zcZ)]=>.det (IsE zbG 2 zlw ze4∧IsE zbG 2 zfK zcZ∧p32 (⟨ze3,zfY ze4⟩:(Sl Span)) (⟨zc1,zfY zcZ⟩:(Sl Span))=true) [.one (.bool (s32 (⟨ze3,zfY ze4⟩:(Sl Span)) (⟨zc1,zfY zcZ⟩:(Sl Span))))]
  | _=>.no
theorem zJc:zay Tryd.prog 32:=⟨_,rfl,rfl,by kernel_rfl⟩
theorem ok32:Ok Tryd.prog 32 zFI:=zbY zLd zJc fun args K h=>by
  unfold zFI at h
  split at h
  · rename_i ze3 zlw ze4 zc1 zfK zcZ
    obtain ⟨⟨⟨rfl,zhq,rfl⟩,⟨rfl,zd5,rfl⟩,hs⟩,hk⟩:=h
    try rw [zfj zhq] at hs
    try rw [zfj zhq] at hk
    try rw [zfj zd5] at hs
    try rw [zfj zd5] at hk
    exact ⟨(fun _ _=>[]),(fun _=>false),zFF,q32 (⟨ze3,zhq⟩:(Sl Span)) (⟨zc1,zd5⟩:(Sl Span)) K hs hk⟩
  · exact h.elim
abbrev T83:Tabs:=((Tabs.nil.addF 75 zxL).addF 76 zxR)
theorem zLe:TabsOk Tryd.prog T83:=((TabsOk.nil.addF zKN).addF zKP)
abbrev G83:Ctrs:=csm T83 (fun _ _=>[]) (fun _=>false)
def zFJ:Ann:=⟨31,[(0,zK [0] []),(1,zK [0,3,4] [3,4]),(2,zK [3,4,14,15] [3,4]),(3,zK [3,4,14,15,16] [3,4]),(4,zK [3,4,5,14,15] [3,4]),(5,zK [3,4,14,15,29] [3,4]),(6,zK [2] []),(7,zK [3,4,14,15] [3,4]),(8,zK [2] [])],
 [(3,zK [3,4,14,15] [3,4])],
 [(2,zK [0,3,4] [3,4])],
 [],[]⟩
abbrev R83:=Bool
abbrev e83 (r:R83):List PA:=[.one (.bool r)]
@[irreducible] def z83:=ptF Tryd.prog G83 zFJ Tryd.f83
def zDi (w:web) (zc2:Int) (tot1:Tab) (fromt1:Tab):St:=⟨[(3,zp 3 0),(4,zp 4 0),(14,zI w.Net.Nodes),(15,zI zc2)],[(3,.box 116 (zm (zac tot1))),(4,.box 116 (zm (zac fromt1)))],[]⟩
abbrev zJd (K:List PA→Prop) (w:web) (X:St→Prop) (P:Int→Tab→Tab→Bool) (S:Int→Tab→Tab→Bool):Prop:=∀ ⦃zc2:Int⦄ ⦃tot1:Tab⦄ ⦃fromt1:Tab⦄,P zc2 tot1 fromt1=true→K (e83 (S zc2 tot1 fromt1))→X (zDi w zc2 tot1 fromt1)
section
variable {K:List PA→Prop} {w:web} {tot0:Tab} {fromt0:Tab} {zc2:Int} {tot1:Tab} {fromt1:Tab} {X1:St→Prop} {P1:Int→Tab→Tab→Bool} {S1:Int→Tab→Tab→Bool}
def zzb (w:web) (S1:Int→Tab→Tab→Bool) (zc2:Int) (tot1:Tab) (fromt1:Tab):Bool :=
  (cond (decide (zc2 < w.Net.Nodes))
 (cond (match ((tg 80 tot1 (0 + zc2.toNat * 2 + 0)) == (1000000000000:Int)) with | true => (match ((tg 80 tot1 (0 + zc2.toNat * 2 + 0 + 1)) == (0:Int)) with | true => true | false => false) | false => false)
 false
 (cond (match ((tg 80 fromt1 (0 + zc2.toNat * 2 + 0)) == (1000000000000:Int)) with | true => (match ((tg 80 fromt1 (0 + zc2.toNat * 2 + 0 + 1)) == (0:Int)) with | true => true | false => false) | false => false)
 false
 (S1 (w64 (zc2+(1:Int))) tot1 fromt1)))
 true)
def zzc (w:web) (P1:Int→Tab→Tab→Bool) (zc2:Int) (tot1:Tab) (fromt1:Tab):Bool :=
  (cond (decide (zc2 < w.Net.Nodes))
 (decide ((0≤zc2∧zc2 < (40:Int))) &&
 (cond (match ((tg 80 tot1 (0 + zc2.toNat * 2 + 0)) == (1000000000000:Int)) with | true => (match ((tg 80 tot1 (0 + zc2.toNat * 2 + 0 + 1)) == (0:Int)) with | true => true | false => false) | false => false)
 true
 (decide ((0≤zc2∧zc2 < (40:Int))) &&
 (cond (match ((tg 80 fromt1 (0 + zc2.toNat * 2 + 0)) == (1000000000000:Int)) with | true => (match ((tg 80 fromt1 (0 + zc2.toNat * 2 + 0 + 1)) == (0:Int)) with | true => true | false => false) | false => false)
 true
 (P1 (w64 (zc2+(1:Int))) tot1 fromt1)))))
 true)
def zzd (w:web):Nat→Int→Tab→Tab→Bool:=lpO (fun _ _ _=>default) (zzb w)
def zze (w:web):Nat→Int→Tab→Tab→Bool:=lpO (fun _ _ _=>false) (zzc w)
def zzf (w:web) (zc2:Int) (tot1:Tab) (fromt1:Tab):Bool:=zzd w Fuel zc2 tot1 fromt1
def zzg (w:web) (zc2:Int) (tot1:Tab) (fromt1:Tab):Bool:=zze w Fuel zc2 tot1 fromt1
theorem zFK (hs:zzg w zc2 tot1 fromt1=true) (hk:K (e83 (zzf w zc2 tot1 fromt1))):z83 K [1,1,0,1,0] [] (zDi w zc2 tot1 fromt1) :=
  zl (fun X=>z83 K [1,1,0,1,0,0] [X]) (by kernel_rfl) fun X1 hX =>
  (show ∀ k, zJd K w X1 (zze w k) (zzd w k) from zjK _ _ (zzc w) (zzb w) (zJd K w X1)
 (by intro _ _ _ hs;exact absurd hs Bool.false_ne_true)
 (by intro P1 S1 hX1 zc2 tot1 fromt1 hs hk;exact hX _ (zbm (by kernel_rfl) (zc hs hk (fun hs hk=>(za4 hs fun hc hs=>And.intro hc (zc hs hk (fun hs hk=>hk) (fun hs hk=>(za4 hs fun hc hs=>And.intro hc (zc hs hk (fun hs hk=>hk) (fun hs hk=>(hX1 hs hk)))))))) (fun hs hk=>hk))))) _ hs hk
def zzh (w:web) (tot0:Tab) (fromt0:Tab):Bool :=
  (zzf w (0:Int) tot0 fromt0)
def zzi (w:web) (tot0:Tab) (fromt0:Tab):Bool :=
  (zzg w (0:Int) tot0 fromt0)
theorem zFL (hs:zzi w tot0 fromt0=true) (hk:K (e83 (zzh w tot0 fromt0))):z83 K [1,1] [] ⟨[(0,zP (.fp (zaC w) 0)),(3,zp 3 0),(4,zp 4 0)],[(3,.box 116 (zm (zac tot0))),(4,.box 116 (zm (zac fromt0)))],[]⟩:=zbm (by kernel_rfl) (zFK hs hk)
def s83 (w:web):Bool :=
  (zzh w (s75 w (0:Int)) (s76 w (0:Int)))
def p83 (w:web):Bool :=
  (decide ((p75 w (0:Int)=true)) &&
 (decide ((p76 w (0:Int)=true)) &&
 (zzi w (s75 w (0:Int)) (s76 w (0:Int)))))
end
theorem q83 (w:web) (K:List PA→Prop) (hs:p83 w=true) (hk:K (e83 (s83 w))):vcFun Tryd.prog G83 zFJ 83 [.one (.fp (zaC w) 0)] K :=
  zbm (by kernel_rfl) (za4 hs fun hc hs=>And.intro (And.intro (zE zai 4 w.Net.Ties.get) (And.intro (rfl:((false,1,false,[none]):MQ)=(false,1,false,[none])) hc)) (za4 hs fun hc hs=>And.intro (And.intro (zE zai 4 w.Net.Ties.get) (And.intro (rfl:((false,1,false,[none]):MQ)=(false,1,false,[none])) hc)) (zFL hs hk)))
def zFM : List PA → COut
  | [.one (.fp [.int .i64 zar,.sl zal zaO zam,.fm zbJ zaS zaT] 0)]=>.det (IsE zai 4 zaO zam∧zbJ=(false,1,false,[none])∧p83 (⟨(⟨zar,(⟨zal,zat zam⟩:(Sl Tie))⟩:Net),(⟨zaS,zaT⟩:Mp)⟩:web)=true) [.one (.bool (s83 (⟨(⟨zar,(⟨zal,zat zam⟩:(Sl Tie))⟩:Net),(⟨zaS,zaT⟩:Mp)⟩:web)))]
  | _=>.no
theorem zJe:zay Tryd.prog 83:=⟨_,rfl,rfl,by kernel_rfl⟩
theorem zMN:Ok Tryd.prog 83 zFM:=zbY zLe zJe fun args K h=>by
  unfold zFM at h
  split at h
  · rename_i zar zal zaO zam zbJ zaS zaT
    obtain ⟨⟨⟨rfl,zaB,rfl⟩,rfl,hs⟩,hk⟩:=h
    try rw [zav zaB] at hs
    try rw [zav zaB] at hk
    exact ⟨(fun _ _=>[]),(fun _=>false),zFJ,q83 (⟨(⟨zar,(⟨zal,zaB⟩:(Sl Tie))⟩:Net),(⟨zaS,zaT⟩:Mp)⟩:web) K hs hk⟩
  · exact h.elim
abbrev T87:Tabs:=Tabs.nil
theorem zLf:TabsOk Tryd.prog T87:=TabsOk.nil
abbrev G87:Ctrs:=csm T87 (fun _ _=>[]) (fun _=>false)
def zJf:Ann:=⟨12,[(0,zK [0,1] []),(1,zK [3] [])],
 [],
 [],
 [],[]⟩
abbrev R87:=Int
abbrev e87 (r:R87):List PA:=[.one (.int .i64 r)]
section
variable {K:List PA→Prop} {c0:Tab} {i_a0:Int}
def s87 (c0:Tab) (i_a0:Int):Int :=
  (w64 ((tg 80 c0 (0+i_a0.toNat * 2+0)) - (tg 80 c0 (0+0 * 2+0))))
def p87 (c0:Tab) (i_a0:Int):Bool :=
  (decide ((0≤i_a0∧i_a0 < (40:Int))) &&
 (decide ((0≤(0:Int)∧(0:Int) < (40:Int))) &&
 true))
end
theorem q87 (c0:Tab) (i_a0:Int) (K:List PA→Prop) (hs:p87 c0 i_a0=true) (hk:K (e87 (s87 c0 i_a0))):vcFun Tryd.prog G87 zJf 87 [.one (.int .i64 i_a0),.one (.fp (zac c0) 0)] K :=
  zbm (by kernel_rfl) (za4 hs fun hc hs=>And.intro hc (za4 hs fun hc hs=>And.intro hc hk))
def zFN : List PA → COut
  | [.one (.int .i64 a0),.one (.fp c0_t 0)]=>.det (c0_t=zac (zbj c0_t)∧p87 (zbj c0_t) a0=true) [.one (.int .i64 (s87 (zbj c0_t) a0))]
  | _=>.no
theorem zJg:zay Tryd.prog 87:=⟨_,rfl,rfl,by kernel_rfl⟩
theorem zMO:Ok Tryd.prog 87 zFN:=zbY zLf zJg fun args K h=>by
  unfold zFN at h
  split at h
  · rename_i a0 c0_t
    obtain ⟨⟨hT_c0,hs⟩,hk⟩:=h
    exact ⟨(fun _ _=>[]),(fun _=>false),zJf,(by have hq:=q87 (zbj c0_t) a0 K hs hk;rw [← hT_c0] at hq;exact hq)⟩
  · exact h.elim
abbrev T84:Tabs:=(Tabs.nil.addF 87 zFN)
theorem zLg:TabsOk Tryd.prog T84:=(TabsOk.nil.addF zMO)
abbrev G84:Ctrs:=csm T84 (fun _ _=>[]) (fun _=>false)
def zFO:Ann:=⟨26,[(0,zK [0,1] []),(1,zK [1,5] [12]),(2,zK [1,5,14,15] [12]),(3,zK [1,5,14,15,16] [12]),(4,zK [1,5,6,14,15] [12]),(5,zK [1,5,14,15] [12]),(6,zK [1,5,14,15] [12]),(7,zK [4] [12])],
 [(3,zK [1,5,14,15] [12])],
 [],
 [],[]⟩
abbrev R84:=(Sl Int)
abbrev e84 (r:R84):List PA:=[.one (.sl r.len 1 (fun i=>enc_3 (r.get i)))]
@[irreducible] def z84:=ptF Tryd.prog G84 zFO Tryd.f84
def zDj (c0:Tab) (w:web) (zbv:Int) (zdv:(Sl Int)) (zgj:Nat→List PV):St:=⟨[(1,zP (.fn 87 [] [.fp (zac c0) 0])),(5,zv 12),(14,zI (w.Net.Nodes.toNat:Int)),(15,zI zbv)],[(12,.vec 3 1 8 zdv.len zgj)],[]⟩
abbrev zJh (K:List PA→Prop) (c0:Tab) (w:web) (X:St→Prop) (P:Int→(Sl Int)→Bool) (S:Int→(Sl Int)→(Sl Int)):Prop:=∀ ⦃zbv:Int⦄ ⦃zdv:(Sl Int)⦄ ⦃zgj:Nat→List PV⦄,P zbv zdv=true→K (e84 (S zbv zdv))→zgj=zg enc_3 zdv→X (zDj c0 w zbv zdv zgj)
section
variable {K:List PA→Prop} {c0:Tab} {w:web} {zbv:Int} {zdv:(Sl Int)} {zgj:Nat→List PV} {X0:St→Prop} {P0:Int→(Sl Int)→Bool} {S0:Int→(Sl Int)→(Sl Int)}
def zzj (c0:Tab) (w:web) (S0:Int→(Sl Int)→(Sl Int)) (zbv:Int) (zdv:(Sl Int)):(Sl Int) :=
  (cond (decide (zbv < (w.Net.Nodes.toNat : Int)))
 (S0 (w64 (zbv+(1:Int))) (⟨zdv.len,(setT zbv.toNat (s87 (zbj (zac c0)) zbv) zdv.get)⟩:Sl Int))
 zdv)
def zzk (c0:Tab) (w:web) (P0:Int→(Sl Int)→Bool) (zbv:Int) (zdv:(Sl Int)):Bool :=
  (cond (decide (zbv < (w.Net.Nodes.toNat : Int)))
 (decide ((p87 (zbj (zac c0)) zbv=true)) &&
 (decide ((0≤zbv∧zbv < (zdv.len:Int))) &&
 (decide ((zbv.toNat < zdv.len)) &&
 (P0 (w64 (zbv+(1:Int))) (⟨zdv.len,(setT zbv.toNat (s87 (zbj (zac c0)) zbv) zdv.get)⟩:Sl Int)))))
 true)
def zzl (c0:Tab) (w:web):Nat→Int→(Sl Int)→(Sl Int):=lpO (fun _ _=>default) (zzj c0 w)
def zzm (c0:Tab) (w:web):Nat→Int→(Sl Int)→Bool:=lpO (fun _ _=>false) (zzk c0 w)
def zzn (c0:Tab) (w:web) (zbv:Int) (zdv:(Sl Int)):(Sl Int):=zzl c0 w Fuel zbv zdv
def zzo (c0:Tab) (w:web) (zbv:Int) (zdv:(Sl Int)):Bool:=zzm c0 w Fuel zbv zdv
theorem zFP (hs:zzo c0 w zbv zdv=true) (hk:K (e84 (zzn c0 w zbv zdv))) (zsy:zgj=zg enc_3 zdv):z84 K [1,1,0,1,0] [] (zDj c0 w zbv zdv zgj) :=
  zl (fun X=>z84 K [1,1,0,1,0,0] [X]) (by kernel_rfl) fun X0 hX =>
  (show ∀ k, zJh K c0 w X0 (zzm c0 w k) (zzl c0 w k) from zjK _ _ (zzk c0 w) (zzj c0 w) (zJh K c0 w X0)
 (by intro _ _ _ hs;exact absurd hs Bool.false_ne_true)
 (by intro P0 S0 hX0 zbv zdv zgj hs hk zsy;subst zsy;exact hX _ (zbm (by kernel_rfl) (zc hs hk (fun hs hk=>(za4 hs fun hc hs=>And.intro (And.intro (znR:zac c0=zac (zbj (zac c0))) hc) (za4 hs fun hc hs=>And.intro hc (za4 hs fun hc hs=>And.intro hc (hX0 hs hk (zmV (enc:=enc_3) (i:=zbv.toNat) (k:=0) (f:=zdv.get) (new:=(enc_3 (s87 (zbj (zac c0)) zbv))) (v:=(s87 (zbj (zac c0)) zbv)) rfl rfl)))))) (fun hs hk=>hk))))) _ hs hk zsy
def s84 (c0:Tab) (w:web):(Sl Int) :=
  (zzn c0 w (0:Int) (⟨w.Net.Nodes.toNat,(fun _=>(0:Int))⟩:Sl Int))
def p84 (c0:Tab) (w:web):Bool :=
  (decide ((0≤w.Net.Nodes∧w.Net.Nodes=w.Net.Nodes∧w.Net.Nodes≤1000000)) &&
 (zzo c0 w (0:Int) (⟨w.Net.Nodes.toNat,(fun _=>(0:Int))⟩:Sl Int)))
end
theorem q84 (c0:Tab) (w:web) (K:List PA→Prop) (hs:p84 c0 w=true) (hk:K (e84 (s84 c0 w))):vcFun Tryd.prog G84 zFO 84 [.one (.fp (zaC w) 0),.one (.fn 87 [] [.fp (zac c0) 0])] K :=
  zbm (by kernel_rfl) (za4 hs fun hc hs=>And.intro hc (zFP hs hk rfl))
def zFQ : List PA → COut
  | [.one (.fp [.int .i64 zar,.sl zal zaO zam,.fm zbJ zaS zaT] 0),.one (.fn 87 [] [.fp c0_t 0])]=>.det (IsE zai 4 zaO zam∧zbJ=(false,1,false,[none])∧c0_t=zac (zbj c0_t)∧p84 (zbj c0_t) (⟨(⟨zar,(⟨zal,zat zam⟩:(Sl Tie))⟩:Net),(⟨zaS,zaT⟩:Mp)⟩:web)=true) [.one (.sl ((s84 (zbj c0_t) (⟨(⟨zar,(⟨zal,zat zam⟩:(Sl Tie))⟩:Net),(⟨zaS,zaT⟩:Mp)⟩:web)).len) 1 (fun i=>enc_3 ((s84 (zbj c0_t) (⟨(⟨zar,(⟨zal,zat zam⟩:(Sl Tie))⟩:Net),(⟨zaS,zaT⟩:Mp)⟩:web)).get i)))]
  | _=>.no
theorem zJi:zay Tryd.prog 84:=⟨_,rfl,rfl,by kernel_rfl⟩
theorem zMP:Ok Tryd.prog 84 zFQ:=zbY zLg zJi fun args K h=>by
  unfold zFQ at h
  split at h
  · rename_i zar zal zaO zam zbJ zaS zaT c0_t
    obtain ⟨⟨⟨rfl,zaB,rfl⟩,rfl,hT_c0,hs⟩,hk⟩:=h
    try rw [zav zaB] at hs
    try rw [zav zaB] at hk
    exact ⟨(fun _ _=>[]),(fun _=>false),zFO,(by have hq:=q84 (zbj c0_t) (⟨(⟨zar,(⟨zal,zaB⟩:(Sl Tie))⟩:Net),(⟨zaS,zaT⟩:Mp)⟩:web) K hs hk;rw [← hT_c0] at hq;exact hq)⟩
  · exact h.elim
abbrev T45:Tabs:=((((Tabs.nil.addF 74 zxB).addF 76 zxR).addF 83 zFM).addF 84 zFQ)
theorem zLh:TabsOk Tryd.prog T45:=((((TabsOk.nil.addF zKJ).addF zKP).addF zMN).addF zMP)
abbrev G45:Ctrs:=csm T45 (fun _ _=>[]) (fun _=>false)
def zJj:Ann:=⟨31,[(0,zK [1,2,3] [3]),(1,zK [1,8,9] []),(2,zK [1,8,9,20] []),(3,zK [6,7] []),(4,zK [1,8,24] []),(5,zK [6,7] []),(6,zK [8,10] [10]),(7,zK [6,7] [])],
 [],
 [],
 [],[]⟩
abbrev R45:=((Sl Int)×Int)
abbrev e45 (r:R45):List PA:=[.one (.sl r.1.len 1 (fun i=>enc_3 (r.1.get i))),.one (.int .i64 r.2)]
section
variable {K:List PA→Prop} {n:Net} {from_a1:Int} {to:Int}
def s45 (n:Net) (from_a1:Int) (to:Int):((Sl Int)×Int) :=
  (cond ((s74 n (⟨2, zax (zbQ [(enc_3 from_a1), (enc_3 to)])⟩ : (Sl Int))).2 == 0)
 (cond ((0:Int) != (0:Int))
 ((⟨0,fun _=>default⟩:(Sl Int)),(0:Int))
 (cond (!(s83 (⟨(s74 n (⟨2, zax (zbQ [(enc_3 from_a1), (enc_3 to)])⟩ : (Sl Int))).1.Net, ((s74 n (⟨2, zax (zbQ [(enc_3 from_a1), (enc_3 to)])⟩ : (Sl Int))).1.out)⟩ : web)))
 ((⟨0,fun _=>default⟩:(Sl Int)),(6:Int))
 ((s84 (zbj (zac (s76 (⟨(s74 n (⟨2,zax (zbQ [(enc_3 from_a1),(enc_3 to)])⟩:(Sl Int))).1.Net,((s74 n (⟨2,zax (zbQ [(enc_3 from_a1),(enc_3 to)])⟩:(Sl Int))).1.out)⟩:web) from_a1))) (⟨(s74 n (⟨2,zax (zbQ [(enc_3 from_a1),(enc_3 to)])⟩:(Sl Int))).1.Net,((s74 n (⟨2,zax (zbQ [(enc_3 from_a1),(enc_3 to)])⟩:(Sl Int))).1.out)⟩:web)),(0:Int))))
 (cond ((s74 n (⟨2, zax (zbQ [(enc_3 from_a1), (enc_3 to)])⟩ : (Sl Int))).2 != (0:Int))
 ((⟨0,fun _=>default⟩:(Sl Int)),(s74 n (⟨2,zax (zbQ [(enc_3 from_a1),(enc_3 to)])⟩:(Sl Int))).2)
 default))
def p45 (n:Net) (from_a1:Int) (to:Int):Bool :=
  (cond ((s74 n (⟨2, zax (zbQ [(enc_3 from_a1), (enc_3 to)])⟩ : (Sl Int))).2 == 0)
 (decide ((p74 n (⟨2,zax (zbQ [(enc_3 from_a1),(enc_3 to)])⟩:(Sl Int))=true)) &&
 (cond ((0:Int) != (0:Int))
 true
 (decide ((p83 (⟨(s74 n (⟨2,zax (zbQ [(enc_3 from_a1),(enc_3 to)])⟩:(Sl Int))).1.Net,((s74 n (⟨2,zax (zbQ [(enc_3 from_a1),(enc_3 to)])⟩:(Sl Int))).1.out)⟩:web)=true)) &&
 (cond (!(s83 (⟨(s74 n (⟨2, zax (zbQ [(enc_3 from_a1), (enc_3 to)])⟩ : (Sl Int))).1.Net, ((s74 n (⟨2, zax (zbQ [(enc_3 from_a1), (enc_3 to)])⟩ : (Sl Int))).1.out)⟩ : web)))
 true
 (decide ((p76 (⟨(s74 n (⟨2,zax (zbQ [(enc_3 from_a1),(enc_3 to)])⟩:(Sl Int))).1.Net,((s74 n (⟨2,zax (zbQ [(enc_3 from_a1),(enc_3 to)])⟩:(Sl Int))).1.out)⟩:web) from_a1=true)) &&
 (decide ((p84 (zbj (zac (s76 (⟨(s74 n (⟨2,zax (zbQ [(enc_3 from_a1),(enc_3 to)])⟩:(Sl Int))).1.Net,((s74 n (⟨2,zax (zbQ [(enc_3 from_a1),(enc_3 to)])⟩:(Sl Int))).1.out)⟩:web) from_a1))) (⟨(s74 n (⟨2,zax (zbQ [(enc_3 from_a1),(enc_3 to)])⟩:(Sl Int))).1.Net,((s74 n (⟨2,zax (zbQ [(enc_3 from_a1),(enc_3 to)])⟩:(Sl Int))).1.out)⟩:web)=true)) &&
 true))))))
 (decide ((p74 n (⟨2,zax (zbQ [(enc_3 from_a1),(enc_3 to)])⟩:(Sl Int))=true)) &&
 (cond ((s74 n (⟨2, zax (zbQ [(enc_3 from_a1), (enc_3 to)])⟩ : (Sl Int))).2 != (0:Int))
 true
 false)))
end
theorem q45 (n:Net) (from_a1:Int) (to:Int) (K:List PA→Prop) (hs:p45 n from_a1 to=true) (hk:K (e45 (s45 n from_a1 to))):vcFun Tryd.prog G45 zJj 45 [.agg (zb5 n),.one (.int .i64 from_a1),.one (.int .i64 to)] (Wk K) :=
  zbm (by kernel_rfl) (zc hs hk (fun hs hk=>(za4 hs fun hc hs=>And.intro (And.intro (zE zai 4 n.Ties.get) (And.intro ((zet []):IsE enc_3 1 1 (zbQ [(enc_3 from_a1),(enc_3 to)])) hc)) (zc hs hk (fun hs hk=>((wk hk (ze2 (.one (.nil _ _)) (ze2 (.one (.rfl _)) zmh))):Wk K [.one (.nils),.one (.int .i64 (0:Int))])) (fun hs hk=>(za4 hs fun hc hs=>And.intro (And.intro (zE zai 4 ((s74 n (⟨2,zax (zbQ [(enc_3 from_a1),(enc_3 to)])⟩:(Sl Int))).1.Net.Ties.get)) (And.intro (rfl:((false,1,false,[none]):MQ)=(false,1,false,[none])) hc)) (zc hs hk (fun hs hk=>((wk hk (ze2 (.one (.nil _ _)) (ze2 (.one (.rfl _)) zmh))):Wk K [.one (.nils),.one (.int .i64 (6:Int))])) (fun hs hk=>(za4 hs fun hc hs=>And.intro (And.intro (zE zai 4 ((s74 n (⟨2,zax (zbQ [(enc_3 from_a1),(enc_3 to)])⟩:(Sl Int))).1.Net.Ties.get)) (And.intro (rfl:((false,1,false,[none]):MQ)=(false,1,false,[none])) hc)) (za4 hs fun hc hs=>And.intro (And.intro (zE zai 4 ((s74 n (⟨2,zax (zbQ [(enc_3 from_a1),(enc_3 to)])⟩:(Sl Int))).1.Net.Ties.get)) (And.intro (rfl:((false,1,false,[none]):MQ)=(false,1,false,[none])) (And.intro (znR:zac (s76 (⟨(s74 n (⟨2,zax (zbQ [(enc_3 from_a1),(enc_3 to)])⟩:(Sl Int))).1.Net,((s74 n (⟨2,zax (zbQ [(enc_3 from_a1),(enc_3 to)])⟩:(Sl Int))).1.out)⟩:web) from_a1)=zac (zbj (zac (s76 (⟨(s74 n (⟨2,zax (zbQ [(enc_3 from_a1),(enc_3 to)])⟩:(Sl Int))).1.Net,((s74 n (⟨2,zax (zbQ [(enc_3 from_a1),(enc_3 to)])⟩:(Sl Int))).1.out)⟩:web) from_a1)))) hc))) ((zfX hk):Wk K [.one (.sl ((s84 (zbj (zac (s76 (⟨(s74 n (⟨2,zax (zbQ [(enc_3 from_a1),(enc_3 to)])⟩:(Sl Int))).1.Net,((s74 n (⟨2,zax (zbQ [(enc_3 from_a1),(enc_3 to)])⟩:(Sl Int))).1.out)⟩:web) from_a1))) (⟨(s74 n (⟨2,zax (zbQ [(enc_3 from_a1),(enc_3 to)])⟩:(Sl Int))).1.Net,((s74 n (⟨2,zax (zbQ [(enc_3 from_a1),(enc_3 to)])⟩:(Sl Int))).1.out)⟩:web)).len) 1 (fun i=>enc_3 ((s84 (zbj (zac (s76 (⟨(s74 n (⟨2,zax (zbQ [(enc_3 from_a1),(enc_3 to)])⟩:(Sl Int))).1.Net,((s74 n (⟨2,zax (zbQ [(enc_3 from_a1),(enc_3 to)])⟩:(Sl Int))).1.out)⟩:web) from_a1))) (⟨(s74 n (⟨2,zax (zbQ [(enc_3 from_a1),(enc_3 to)])⟩:(Sl Int))).1.Net,((s74 n (⟨2,zax (zbQ [(enc_3 from_a1),(enc_3 to)])⟩:(Sl Int))).1.out)⟩:web)).get i))),.one (.int .i64 (0:Int))])))))))))) (fun hs hk=>(za4 hs fun hc hs=>And.intro (And.intro (zE zai 4 n.Ties.get) (And.intro ((zet []):IsE enc_3 1 1 (zbQ [(enc_3 from_a1),(enc_3 to)])) hc)) (zc hs hk (fun hs hk=>((wk hk (ze2 (.one (.nil _ _)) (ze2 (.one (.rfl _)) zmh))):Wk K [.one (.nils),.one (.int .i64 ((s74 n (⟨2,zax (zbQ [(enc_3 from_a1),(enc_3 to)])⟩:(Sl Int))).2))])) (fun hs hk=>(absurd hs Bool.false_ne_true:False))))))
def zFR : List PA → COut
  | [.agg [.int .i64 zan,.sl zaj zaR zah],.one (.int .i64 a1),.one (.int .i64 a2)]=>.det (IsE zai 4 zaR zah∧p45 (⟨zan,(⟨zaj,zat zah⟩:(Sl Tie))⟩:Net) a1 a2=true) [.one (.sl (((s45 (⟨zan,(⟨zaj,zat zah⟩:(Sl Tie))⟩:Net) a1 a2).1).len) 1 (fun i=>enc_3 (((s45 (⟨zan,(⟨zaj,zat zah⟩:(Sl Tie))⟩:Net) a1 a2).1).get i))),.one (.int .i64 ((s45 (⟨zan,(⟨zaj,zat zah⟩:(Sl Tie))⟩:Net) a1 a2).2))]
  | _=>.no
theorem zJk:zay Tryd.prog 45:=⟨_,rfl,rfl,by kernel_rfl⟩
theorem zMQ:Ok Tryd.prog 45 zFR:=zhc zLh zJk fun args K h=>by
  unfold zFR at h
  split at h
  · rename_i zan zaj zaR zah a1 a2
    obtain ⟨⟨⟨rfl,zaH,rfl⟩,hs⟩,hk⟩:=h
    try rw [zav zaH] at hs
    try rw [zav zaH] at hk
    exact ⟨_,zfy zfW _,(fun _ _=>[]),(fun _=>false),zJj,q45 (⟨zan,(⟨zaj,zaH⟩:(Sl Tie))⟩:Net) a1 a2 K hs hk⟩
  · exact h.elim
abbrev T49:Tabs:=(((Tabs.nil.addF 67 zrk).addF 88 zxA).addF 89 zB7)
theorem zLi:TabsOk Tryd.prog T49:=(((TabsOk.nil.addF zIn).addF zKH).addF zL6)
abbrev G49:Ctrs:=csm T49 (fun _ _=>[]) (fun _=>false)
def zFS:Ann:=⟨31,[(0,zK [1] [1]),(1,zK [1,10] [1]),(2,zK [2,3] []),(3,zK [4] [13]),(4,zK [4,16] [13]),(5,zK [2,3] []),(6,zK [4,5] [13]),(7,zK [5,18,19,20] []),(8,zK [5,18,19,20,21] [28]),(9,zK [5,7,18,19,20] [7,28]),(10,zK [5,18,19,20] [28]),(11,zK [5,18,19,20] [28]),(12,zK [2,3] [28])],
 [(8,⟨[5,18,19,20],[28],[(5,28,75,fun _=>za2 default)],[],[],[],[]⟩)],
 [(2,zK [1,10] [1]),(3,zK [1] [1]),(5,zK [4,16] [13]),(6,zK [4] [13]),(8,zK [5,18,19,20] [])],
 [],[]⟩
abbrev R49:=((Sl Use)×Int)
abbrev e49 (r:R49):List PA:=[.one (.sl r.1.len 2 (fun i=>za2 (r.1.get i))),.one (.int .i64 r.2)]
@[irreducible] def z49:=ptF Tryd.prog G49 zFS Tryd.f49
def zDk (zci:(Sl step)) (zc3:Int) (zdA:Int) (zdd:(Sl Use)) (zgk:Nat→List PV):St:=⟨[(5,zv 28),(18,zS zad 5 zci),(19,zI zc3),(20,zI zdA)],[(28,.vec 75 2 16 zdd.len zgk)],[]⟩
abbrev zJl (K:List PA→Prop) (zci:(Sl step)) (zc3:Int) (X:St→Prop) (P:Int→(Sl Use)→Bool) (S:Int→(Sl Use)→((Sl Use)×Int)):Prop:=∀ ⦃zdA:Int⦄ ⦃zdd:(Sl Use)⦄ ⦃zgk:Nat→List PV⦄,P zdA zdd=true→K (e49 (S zdA zdd))→zgk=zg za2 zdd→X (zDk zci zc3 zdA zdd zgk)
section
variable {K:List PA→Prop} {n:Net} {zaK:Bool} {zsz:Bool} {zci:(Sl step)} {zc3:Int} {zzp:Nat→List PV} {zdA:Int} {zdd:(Sl Use)} {zgk:Nat→List PV} {X5:St→Prop} {P5:Int→(Sl Use)→Bool} {S5:Int→(Sl Use)→((Sl Use)×Int)}
def zzq (zci:(Sl step)) (zc3:Int) (S5:Int→(Sl Use)→((Sl Use)×Int)) (zdA:Int) (zdd:(Sl Use)):((Sl Use)×Int) :=
  (cond (decide (zdA < zc3))
 (S5 (w64 (zdA+(1:Int))) (⟨(zdd.len+1),(zjZ zdd.len zdd.get (fun _=>(zci.get zdA.toNat).Use))⟩:Sl Use))
 (zdd,(0:Int)))
def zzr (zci:(Sl step)) (zc3:Int) (P5:Int→(Sl Use)→Bool) (zdA:Int) (zdd:(Sl Use)):Bool :=
  (cond (decide (zdA < zc3))
 (decide ((0≤zdA∧zdA < (zci.len:Int))) &&
 (decide (((zdd.len+1) * 16≤140737488355328∧zdd.len+1≤9223372036854775807)) &&
 (P5 (w64 (zdA+(1:Int))) (⟨(zdd.len+1),(zjZ zdd.len zdd.get (fun _=>(zci.get zdA.toNat).Use))⟩:Sl Use))))
 true)
def zzs (zci:(Sl step)) (zc3:Int):Nat→Int→(Sl Use)→((Sl Use)×Int):=lpO (fun _ _=>default) (zzq zci zc3)
def zzt (zci:(Sl step)) (zc3:Int):Nat→Int→(Sl Use)→Bool:=lpO (fun _ _=>false) (zzr zci zc3)
def zzu (zci:(Sl step)) (zc3:Int) (zdA:Int) (zdd:(Sl Use)):((Sl Use)×Int):=zzs zci zc3 Fuel zdA zdd
def zzv (zci:(Sl step)) (zc3:Int) (zdA:Int) (zdd:(Sl Use)):Bool:=zzt zci zc3 Fuel zdA zdd
theorem zFT (hs:zzv zci zc3 zdA zdd=true) (hk:K (e49 (zzu zci zc3 zdA zdd))) (zsA:zgk=zg za2 zdd):z49 (Wk K) [1,1,1,1,1,0,1,0] [] (zDk zci zc3 zdA zdd zgk) :=
  zl (fun X=>z49 (Wk K) [1,1,1,1,1,0,1,0,0] [X]) (by kernel_rfl) fun X5 hX =>
  (show ∀ k, zJl K zci zc3 X5 (zzt zci zc3 k) (zzs zci zc3 k) from zjK _ _ (zzr zci zc3) (zzq zci zc3) (zJl K zci zc3 X5)
 (by intro _ _ _ hs;exact absurd hs Bool.false_ne_true)
 (by intro P5 S5 hX5 zdA zdd zgk hs hk zsA;subst zsA;exact hX _ (zbm (by kernel_rfl) (zc hs hk (fun hs hk=>(za4 hs fun hc hs=>And.intro hc (za4 hs fun hc hs=>And.intro hc (hX5 hs hk (zk2 (enc:=za2) (f:=zdd.get) (h:=(fun _=>(zci.get zdA.toNat).Use)) rfl rfl))))) (fun hs hk=>((zfX hk):Wk K [.one (.sl zdd.len 2 (fun i=>za2 (zdd.get i))),.one (.int .i64 (0:Int))])))))) _ hs hk zsA
def zzw (zci:(Sl step)) (zc3:Int):((Sl Use)×Int) :=
  (zzu zci zc3 (0:Int) (⟨0,(fun _=>default)⟩:Sl Use))
def zzx (zci:(Sl step)) (zc3:Int):Bool :=
  (zzv zci zc3 (0:Int) (⟨0,(fun _=>default)⟩:Sl Use))
theorem zFU (hs:zzx zci zc3=true) (hk:K (e49 (zzw zci zc3))) (zFV:zzp=zg zad zci):z49 (Wk K) [1,1,1,1,1,0,1] [] ⟨[(5,zP (.nils)),(18,zP (.sl zci.len 5 zzp)),(19,zI zc3),(20,zI (0:Int))],[],[]⟩:=by subst zFV;exact zbm (by kernel_rfl) (zFT hs hk rfl)
def zzy (n:Net):((Sl Use)×Int) :=
  (zzw (s89 (⟨n,(⟨0,(fun _=>none)⟩:Mp)⟩:web)) ((s89 (⟨n,(⟨0,(fun _=>none)⟩:Mp)⟩:web)).len:Int))
def zzz (n:Net):Bool :=
  (decide ((p89 (⟨n,(⟨0,(fun _=>none)⟩:Mp)⟩:web)=true)) &&
 (zzx (s89 (⟨n,(⟨0,(fun _=>none)⟩:Mp)⟩:web)) ((s89 (⟨n,(⟨0,(fun _=>none)⟩:Mp)⟩:web)).len:Int)))
theorem zFW (hs:zzz n=true) (hk:K (e49 (zzy n))):z49 (Wk K) [1,1,1,1] [] ⟨[(4,zp 13 0)],[(13,.box 105 (zm (zaC (⟨n,(⟨0,(fun _=>none)⟩:Mp)⟩:web))))],[]⟩:=zbm (by kernel_rfl) (za4 hs fun hc hs=>And.intro (And.intro ((fun _=>rfl):(∀ i,sc2 ((fun i=>zad ((s89 (⟨n,(⟨0,(fun _=>none)⟩:Mp)⟩:web)).get i)) i)=true)) (And.intro (zE zai 4 n.Ties.get) (And.intro (rfl:((false,1,false,[none]):MQ)=(false,1,false,[none])) hc))) (zFU hs hk rfl))
def zzA (n:Net) (zsz:Bool):((Sl Use)×Int) :=
  (cond zsz
 ((⟨0,fun _=>default⟩:(Sl Use)),(6:Int))
 (zzy n))
def zzB (n:Net) (zsz:Bool):Bool :=
  (cond zsz
 true
 (zzz n))
theorem zFX (hs:zzB n zsz=true) (hk:K (e49 (zzA n zsz))):z49 (Wk K) [1,1,1,0,1] [] ⟨[(4,zp 13 0),(16,zB zsz)],[(13,.box 105 (zm (zaC (⟨n,(⟨0,(fun _=>none)⟩:Mp)⟩:web))))],[]⟩:=zbm (by kernel_rfl) (zc hs hk (fun hs hk=>((wk hk (ze2 (.one (.nil _ _)) (ze2 (.one (.rfl _)) zmh))):Wk K [.one (.nils),.one (.int .i64 (6:Int))])) (fun hs hk=>(zFW hs hk)))
def zzC (n:Net):((Sl Use)×Int) :=
  (zzA n (!(s88 (⟨n,(⟨0,(fun _=>none)⟩:Mp)⟩:web))))
def zzD (n:Net):Bool :=
  (decide ((p88 (⟨n,(⟨0,(fun _=>none)⟩:Mp)⟩:web)=true)) &&
 (zzB n (!(s88 (⟨n,(⟨0,(fun _=>none)⟩:Mp)⟩:web)))))
theorem zFY (hs:zzD n=true) (hk:K (e49 (zzC n))):z49 (Wk K) [1,1] [] ⟨[(1,zp 1 0)],[(1,.box 24 (zm (zb5 n)))],[]⟩:=zbm (by kernel_rfl) (za4 hs fun hc hs=>And.intro (And.intro (zE zai 4 n.Ties.get) (And.intro (rfl:((false,1,false,[none]):MQ)=(false,1,false,[none])) hc)) (zFX hs hk))
def zzE (n:Net) (zaK:Bool):((Sl Use)×Int) :=
  (cond zaK
 ((⟨0,fun _=>default⟩:(Sl Use)),(2:Int))
 (zzC n))
def zzF (n:Net) (zaK:Bool):Bool :=
  (cond zaK
 true
 (zzD n))
theorem zFZ (hs:zzF n zaK=true) (hk:K (e49 (zzE n zaK))):z49 (Wk K) [1,0,1] [] ⟨[(1,zp 1 0),(10,zB zaK)],[(1,.box 24 (zm (zb5 n)))],[]⟩:=zbm (by kernel_rfl) (zc hs hk (fun hs hk=>((wk hk (ze2 (.one (.nil _ _)) (ze2 (.one (.rfl _)) zmh))):Wk K [.one (.nils),.one (.int .i64 (2:Int))])) (fun hs hk=>(zFY hs hk)))
def s49 (n:Net):((Sl Use)×Int) :=
  (zzE n (!(s67 n)))
def p49 (n:Net):Bool :=
  (decide ((p67 n=true)) &&
 (zzF n (!(s67 n))))
end
theorem q49 (n:Net) (K:List PA→Prop) (hs:p49 n=true) (hk:K (e49 (s49 n))):vcFun Tryd.prog G49 zFS 49 [.agg (zb5 n)] (Wk K) :=
  zbm (by kernel_rfl) (za4 hs fun hc hs=>And.intro (And.intro (zE zai 4 n.Ties.get) hc) (zFZ hs hk))
def zF0 : List PA → COut
  | [.agg [.int .i64 zan,.sl zaj zaR zah]]=>.det (IsE zai 4 zaR zah∧p49 (⟨zan,(⟨zaj,zat zah⟩:(Sl Tie))⟩:Net)=true) [.one (.sl (((s49 (⟨zan,(⟨zaj,zat zah⟩:(Sl Tie))⟩:Net)).1).len) 2 (fun i=>za2 (((s49 (⟨zan,(⟨zaj,zat zah⟩:(Sl Tie))⟩:Net)).1).get i))),.one (.int .i64 ((s49 (⟨zan,(⟨zaj,zat zah⟩:(Sl Tie))⟩:Net)).2))]
  | _=>.no
theorem zJm:zay Tryd.prog 49:=⟨_,rfl,rfl,by kernel_rfl⟩
theorem zMR:Ok Tryd.prog 49 zF0:=zhc zLi zJm fun args K h=>by
  unfold zF0 at h
  split at h
  · rename_i zan zaj zaR zah
    obtain ⟨⟨⟨rfl,zaH,rfl⟩,hs⟩,hk⟩:=h
    try rw [zav zaH] at hs
    try rw [zav zaH] at hk
    exact ⟨_,zfy zfW _,(fun _ _=>[]),(fun _=>false),zFS,q49 (⟨zan,(⟨zaj,zaH⟩:(Sl Tie))⟩:Net) K hs hk⟩
  · exact h.elim
abbrev T53:Tabs:=Tabs.nil
theorem zLj:TabsOk Tryd.prog T53:=TabsOk.nil
abbrev G53:Ctrs:=csm T53 (fun _ _=>[]) (fun _=>false)
def zF1:Ann:=⟨26,[(0,zK [0,1] []),(1,zK [0,1,10] []),(2,zK [4] []),(3,zK [0,1,5] []),(4,zK [0,1,5,14] []),(5,zK [0,1,5] []),(6,zK [0,1,5,25] []),(7,zK [4] []),(8,zK [4] [])],
 [(4,zK [0,1,5] [])],
 [(3,zK [0,1] [])],
 [],[]⟩
abbrev R53:=Bool
abbrev e53 (r:R53):List PA:=[.one (.bool r)]
@[irreducible] def z53:=ptF Tryd.prog G53 zF1 Tryd.f53
def zDl (a:(Sl Use)) (b:(Sl Use)) (iv1:Int):St:=⟨[(0,zS za2 2 a),(1,zS za2 2 b),(5,zI iv1)],[],[]⟩
abbrev zJn (K:List PA→Prop) (a:(Sl Use)) (b:(Sl Use)) (X:St→Prop) (P:Int→Bool) (S:Int→Bool):Prop:=∀ ⦃iv1:Int⦄,P iv1=true→K (e53 (S iv1))→X (zDl a b iv1)
section
variable {K:List PA→Prop} {a:(Sl Use)} {b:(Sl Use)} {iv1:Int} {X1:St→Prop} {P1:Int→Bool} {S1:Int→Bool}
def zzG (a:(Sl Use)) (b:(Sl Use)) (S1:Int→Bool) (iv1:Int):Bool :=
  (cond (decide (iv1 < (a.len : Int)))
 (cond (!(match ((a.get iv1.toNat).Tie == (b.get iv1.toNat).Tie) with | true => (match ((a.get iv1.toNat).Back == (b.get iv1.toNat).Back) with | true => true | false => false) | false => false))
 false
 (S1 (w64 (iv1+(1:Int)))))
 true)
def zzH (a:(Sl Use)) (b:(Sl Use)) (P1:Int→Bool) (iv1:Int):Bool :=
  (cond (decide (iv1 < (a.len : Int)))
 (decide ((0≤iv1∧iv1 < (a.len:Int))) &&
 (decide ((0≤iv1∧iv1 < (b.len:Int))) &&
 (cond (!(match ((a.get iv1.toNat).Tie == (b.get iv1.toNat).Tie) with | true => (match ((a.get iv1.toNat).Back == (b.get iv1.toNat).Back) with | true => true | false => false) | false => false))
 true
 (P1 (w64 (iv1+(1:Int)))))))
 true)
def zzI (a:(Sl Use)) (b:(Sl Use)):Nat→Int→Bool:=lpO (fun _=>default) (zzG a b)
def zzJ (a:(Sl Use)) (b:(Sl Use)):Nat→Int→Bool:=lpO (fun _=>false) (zzH a b)
def zzK (a:(Sl Use)) (b:(Sl Use)) (iv1:Int):Bool:=zzI a b Fuel iv1
def zzL (a:(Sl Use)) (b:(Sl Use)) (iv1:Int):Bool:=zzJ a b Fuel iv1
theorem zF2 (hs:zzL a b iv1=true) (hk:K (e53 (zzK a b iv1))):z53 K [1,1,0,1,0] [] (zDl a b iv1) :=
  zl (fun X=>z53 K [1,1,0,1,0,0] [X]) (by kernel_rfl) fun X1 hX =>
  (show ∀ k, zJn K a b X1 (zzJ a b k) (zzI a b k) from zjK _ _ (zzH a b) (zzG a b) (zJn K a b X1)
 (by intro _ hs;exact absurd hs Bool.false_ne_true)
 (by intro P1 S1 hX1 iv1 hs hk;exact hX _ (zbm (by kernel_rfl) (zc hs hk (fun hs hk=>(za4 hs fun hc hs=>And.intro hc (za4 hs fun hc hs=>And.intro hc (zc hs hk (fun hs hk=>hk) (fun hs hk=>(hX1 hs hk)))))) (fun hs hk=>hk))))) _ hs hk
def zzM (a:(Sl Use)) (b:(Sl Use)):Bool :=
  (zzK a b (0:Int))
def zzN (a:(Sl Use)) (b:(Sl Use)):Bool :=
  (zzL a b (0:Int))
theorem zF3 (hs:zzN a b=true) (hk:K (e53 (zzM a b))):z53 K [1,1] [] ⟨[(0,zS za2 2 a),(1,zS za2 2 b)],[],[]⟩:=zbm (by kernel_rfl) (zF2 hs hk)
def s53 (a:(Sl Use)) (b:(Sl Use)):Bool :=
  (cond ((a.len : Int) != (b.len : Int))
 false
 (zzM a b))
def p53 (a:(Sl Use)) (b:(Sl Use)):Bool :=
  (cond ((a.len : Int) != (b.len : Int))
 true
 (zzN a b))
end
theorem q53 (a:(Sl Use)) (b:(Sl Use)) (K:List PA→Prop) (hs:p53 a b=true) (hk:K (e53 (s53 a b))):vcFun Tryd.prog G53 zF1 53 [.one (.sl a.len 2 (fun i=>za2 (a.get i))),.one (.sl b.len 2 (fun i=>za2 (b.get i)))] K :=
  zbm (by kernel_rfl) (zc hs hk (fun hs hk=>hk) (fun hs hk=>(zF3 hs hk)))
def zF4 : List PA → COut
  | [.one (.sl ze3 zlw ze4),.one (.sl zc1 zfK zcZ)]=>.det (IsE za2 2 zlw ze4∧IsE za2 2 zfK zcZ∧p53 (⟨ze3,zdk ze4⟩:(Sl Use)) (⟨zc1,zdk zcZ⟩:(Sl Use))=true) [.one (.bool (s53 (⟨ze3,zdk ze4⟩:(Sl Use)) (⟨zc1,zdk zcZ⟩:(Sl Use))))]
  | _=>.no
theorem zJo:zay Tryd.prog 53:=⟨_,rfl,rfl,by kernel_rfl⟩
theorem zMS:Ok Tryd.prog 53 zF4:=zbY zLj zJo fun args K h=>by
  unfold zF4 at h
  split at h
  · rename_i ze3 zlw ze4 zc1 zfK zcZ
    obtain ⟨⟨⟨rfl,zhq,rfl⟩,⟨rfl,zd5,rfl⟩,hs⟩,hk⟩:=h
    try rw [zdl zhq] at hs
    try rw [zdl zhq] at hk
    try rw [zdl zd5] at hs
    try rw [zdl zd5] at hk
    exact ⟨(fun _ _=>[]),(fun _=>false),zF1,q53 (⟨ze3,zhq⟩:(Sl Use)) (⟨zc1,zd5⟩:(Sl Use)) K hs hk⟩
  · exact h.elim
abbrev T92:Tabs:=((Tabs.nil.addF 93 zpI).addI 110 zpK)
theorem zLk:TabsOk Tryd.prog T92:=((TabsOk.nil.addF zHq).addI zvt)
abbrev G92:Ctrs:=csm T92 (fun _ _=>[]) (fun _=>false)
def zjL:Ann:=⟨49,[(0,zK [0,1,2,3,4] [0,1,2,3,4,4099]),(1,zK [0,1,2,3,4,7] [0,1,2,3,4,4099]),(2,zK [0,1,2,3,4,5,7] [0,1,2,3,4,5,4099]),(3,zK [0,1,2,3,4,5,7,41] [0,1,2,3,4,5,4099]),(4,zK [0,1,2,3,4,5] [0,1,2,3,4,5,4099]),(5,zK [0,1,2,3,4] [0,1,2,3,4,4099]),(6,zK [0,1,2,3,4] [0,1,2,3,4,4099]),(7,zK [0,1,2,3,4] [0,1,2,3,4,4099])],
 [(2,zK [0,1,2,3,4,7] [0,1,2,3,4,4099])],
 [],
 [],[]⟩
def zgl (w:web) (at_:Int) (d:Tab) (out:(Sl Use)):St:=⟨[(0,.one (.c (.ptr 0 0))),(1,.one (.c (.ptr 1 0))),(2,.one (.c (.ptr 2 0))),(3,.one (.c (.ptr 3 0))),(4,.one (.c (.ptr 4 0))),(7,.one (.c (.p (.fn 110 [] [.fp [.fp (zaC w) 0] 0]))))],[(0,.box 102 [.p (.fp (zaC w) 0)]),(1,.box 3 [.p (.int .i64 at_)]),(2,.box 116 (zm (zac d))),(3,.box 67 [.vec 4099]),(4,.box 4 [.p (.bool false)]),(4099,.vec 75 2 16 out.len (fun i=>za2 (out.get i)))],[]⟩
def zl1 (K:List PA×List XA→Prop) (w:web) (at_:Int) (d:Tab) (out:(Sl Use)):Prop:=vc Tryd.prog G92 zjL (cdF Tryd.f92 [1,0,1,0]) (zak 0 (sqK Tryd.prog G92 zjL (cdF Tryd.f92 [1,1]) (zmn Tryd.prog Tryd.f92 [.box 102 [.p (.fp (zaC w) 0)],.box 3 [.p (.int .i64 at_)],.box 116 (xcm (zac d)),.box 67 [.vec 75 2 16 out.len (fun i=>za2 (out.get i))]] (fun a b=>K (a,b))))) (zgl w at_ d out)
theorem zF5 (w : web) (at_ : Int) (d : Tab) (out : (Sl Use)) (K : List PA × List XA → Prop) :
  zkY Tryd.prog G92 zjL 92 [.box 102 [.p (.fp (zaC w) 0)],.box 3 [.p (.int .i64 at_)],.box 116 (xcm (zac d)),.box 67 [.vec 75 2 16 out.len (fun i=>za2 (out.get i))]] (fun a b=>K (a,b)) =
  ((IsE zai 4 4 (fun i=>zai (w.Net.Ties.get i))∧((false,1,false,[none]):MQ)=(false,1,false,[none])) ∧
 (zl1 K w at_ d out)):=by kernel_rfl
def zql (K:List PA×List XA→Prop) (w:web) (at_:Int) (d:Tab) (out:(Sl Use)):Prop :=
  (K ([.one (.bool false)],[.box 102 [.p (.fp (zaC w) 0)],.box 3 [.p (.int .i64 at_)],.box 116 (xcm (zac d)),.box 67 [.vec 75 2 16 out.len (fun i=>za2 (out.get i))]]))
def zqm (K:List PA×List XA→Prop) (X0:List (List PA)→St→Prop) (y0:step) (rest0:List (List PA)) (w:web) (at_:Int) (d:Tab) (out:(Sl Use)):Prop :=
  (zbR (y0.from_ == at_)
 (((0≤y0.to∧y0.to < (40:Int))) ∧
 (zbR (!(match ((tg 80 d (0 + y0.to.toNat * 2 + 0)) == (1000000000000:Int)) with | true => (match ((tg 80 d (0 + y0.to.toNat * 2 + 0 + 1)) == (0:Int)) with | true => true | false => false) | false => false))
 (((0≤y0.to∧y0.to < (40:Int))) ∧
 (((0≤y0.to∧y0.to < (40:Int))) ∧
 (((0≤at_∧at_ < (40:Int))) ∧
 (zbR (match ((w64 ((tg 80 d (0 + y0.to.toNat * 2 + 0)) + y0.length)) == (tg 80 d (0 + at_.toNat * 2 + 0))) with | true => (match ((w64 ((tg 80 d (0 + y0.to.toNat * 2 + 1)) + (1:Int))) == (tg 80 d (0 + at_.toNat * 2 + 0 + 1))) with | true => true | false => false) | false => false)
 ((((out.len+1) * 16≤140737488355328∧out.len+1≤9223372036854775807)) ∧
 (K ([.one (.bool true)],[.box 102 [.p (.fp (zaC w) 0)],.box 3 [.p (.int .i64 y0.to)],.box 116 (xcm (zac d)),.box 67 [.vec 75 2 16 (out.len+1) (appG out.len (fun i=>za2 (out.get i)) (fun _=>(za2 y0.Use)))]])))
 (X0 rest0 (zgl w at_ d out))))))
 (X0 rest0 (zgl w at_ d out))))
 (X0 rest0 (zgl w at_ d out)))
theorem zsB (K:List PA×List XA→Prop) (w:web) (at_:Int) (d:Tab) (out:(Sl Use)):(zak 0 (sqK Tryd.prog G92 zjL (cdF Tryd.f92 [1,1]) (zmn Tryd.prog Tryd.f92 [.box 102 [.p (.fp (zaC w) 0)],.box 3 [.p (.int .i64 at_)],.box 116 (xcm (zac d)),.box 67 [.vec 75 2 16 out.len (fun i=>za2 (out.get i))]] (fun a b=>K (a,b))))) .normal (zgl w at_ d out)=zql K w at_ d out:=by kernel_rfl
theorem zsC (K : List PA × List XA → Prop) (X0 : List (List PA) → St → Prop) (y0 : step) (rest0 : List (List PA)) (w : web) (at_ : Int) (d : Tab) (out : (Sl Use)) :
  zvL Tryd.prog G92 zjL 2 [8] (cd (cdF Tryd.f92 [1,0,1,0]) [0]) (cd (cdF Tryd.f92 [1,0,1,0]) [1]) X0 (zak 0 (sqK Tryd.prog G92 zjL (cdF Tryd.f92 [1,1]) (zmn Tryd.prog Tryd.f92 [.box 102 [.p (.fp (zaC w) 0)],.box 3 [.p (.int .i64 at_)],.box 116 (xcm (zac d)),.box 67 [.vec 75 2 16 out.len (fun i=>za2 (out.get i))]] (fun a b=>K (a,b))))) [.agg (zad y0)] rest0 (zgl w at_ d out)=zqm K X0 y0 rest0 w at_ d out:=by kernel_rfl
theorem zzO (K : List PA × List XA → Prop) (w : web) (at_ : Int) (d : Tab) (out : (Sl Use))
  (hsafe:IsE zai 4 4 (fun i=>zai (w.Net.Ties.get i))∧((false,1,false,[none]):MQ)=(false,1,false,[none])∧(zmi w=true)) (h:∀ X0:List (List PA)→St→Prop,(∀ (_:Unit),zql K w at_ d out→X0 [] (zgl w at_ d out))→(∀ (y:step) (rest:List (List PA)) (_:Unit),zqm K X0 y rest w at_ d out→X0 ([.agg (zad y)] :: rest) (zgl w at_ d out))→X0 ((zik w).map fun y=>[.agg (zad y)]) (zgl w at_ d out)) :
  zl1 K w at_ d out:=by
  have e:zl1 K w at_ d out=((IsE zai 4 4 (fun i=>zai (w.Net.Ties.get i))∧((false,1,false,[none]):MQ)=(false,1,false,[none])∧(zmi w=true))∧∀ X:List (List PA)→St→Prop,(∀ s,(zak 0 (sqK Tryd.prog G92 zjL (cdF Tryd.f92 [1,1]) (zmn Tryd.prog Tryd.f92 [.box 102 [.p (.fp (zaC w) 0)],.box 3 [.p (.int .i64 at_)],.box 116 (xcm (zac d)),.box 67 [.vec 75 2 16 out.len (fun i=>za2 (out.get i))]] (fun a b=>K (a,b))))) .normal s→X [] s)→(∀ y rest s,zvL Tryd.prog G92 zjL 2 [8] (cd (cdF Tryd.f92 [1,0,1,0]) [0]) (cd (cdF Tryd.f92 [1,0,1,0]) [1]) X (zak 0 (sqK Tryd.prog G92 zjL (cdF Tryd.f92 [1,1]) (zmn Tryd.prog Tryd.f92 [.box 102 [.p (.fp (zaC w) 0)],.box 3 [.p (.int .i64 at_)],.box 116 (xcm (zac d)),.box 67 [.vec 75 2 16 out.len (fun i=>za2 (out.get i))]] (fun a b=>K (a,b))))) y rest s→X (y :: rest) s)→X ((zik w).map fun y=>[.agg (zad y)]) (zgl w at_ d out)):=by kernel_rfl
  refine zbm e ⟨hsafe,?_⟩
  intro X h0 h1
  refine h X (fun _ hs=>h0 _ ?_) (fun y rest _ hs=>h1 _ rest _ ?_)
  · rw [zsB K w at_ d out];exact hs
  · have e2 := zsC K X y rest w at_ d out
    rw [e2];exact hs
abbrev e92 (w:web) (d:Tab) (r:(Bool×Int×(Sl Use))):List PA×List XA:=([.one (.bool r.1)],[.box 102 [.p (.fp (zaC w) 0)],.box 3 [.p (.int .i64 r.2.1)],.box 116 (xcm (zac d)),.box 67 [.vec 75 2 16 r.2.2.len (fun i=>za2 (r.2.2.get i))]])
attribute [irreducible] zl1
def zsD (w:web) (at_:Int) (d:Tab) (out:(Sl Use)):(Bool×Int×(Sl Use)) :=
  (false,at_,(⟨out.len,out.get⟩:(Sl Use)))
def zsE (w:web) (at_:Int) (d:Tab) (out:(Sl Use)):Bool :=
  true
def zsF (w:web) (at_:Int) (d:Tab) (out:(Sl Use)) (y0:step) (S0:(Bool×Int×(Sl Use))):(Bool×Int×(Sl Use)) :=
  (cond (y0.from_ == at_)
 (cond (!(match ((tg 80 d (0 + y0.to.toNat * 2 + 0)) == (1000000000000:Int)) with | true => (match ((tg 80 d (0 + y0.to.toNat * 2 + 0 + 1)) == (0:Int)) with | true => true | false => false) | false => false))
 (cond (match ((w64 ((tg 80 d (0 + y0.to.toNat * 2 + 0)) + y0.length)) == (tg 80 d (0 + at_.toNat * 2 + 0))) with | true => (match ((w64 ((tg 80 d (0 + y0.to.toNat * 2 + 1)) + (1:Int))) == (tg 80 d (0 + at_.toNat * 2 + 0 + 1))) with | true => true | false => false) | false => false)
 (true,y0.to,(⟨(out.len+1),(zjZ out.len out.get (fun _=>y0.Use))⟩:(Sl Use)))
 (S0))
 (S0))
 (S0))
def zsG (w:web) (at_:Int) (d:Tab) (out:(Sl Use)) (y0:step) (P0:Bool):Bool :=
  (cond (y0.from_ == at_)
 (decide ((0≤y0.to∧y0.to < (40:Int))) &&
 (cond (!(match ((tg 80 d (0 + y0.to.toNat * 2 + 0)) == (1000000000000:Int)) with | true => (match ((tg 80 d (0 + y0.to.toNat * 2 + 0 + 1)) == (0:Int)) with | true => true | false => false) | false => false))
 (decide ((0≤y0.to∧y0.to < (40:Int))) &&
 (decide ((0≤y0.to∧y0.to < (40:Int))) &&
 (decide ((0≤at_∧at_ < (40:Int))) &&
 (cond (match ((w64 ((tg 80 d (0 + y0.to.toNat * 2 + 0)) + y0.length)) == (tg 80 d (0 + at_.toNat * 2 + 0))) with | true => (match ((w64 ((tg 80 d (0 + y0.to.toNat * 2 + 1)) + (1:Int))) == (tg 80 d (0 + at_.toNat * 2 + 0 + 1))) with | true => true | false => false) | false => false)
 (decide (((out.len+1) * 16≤140737488355328∧out.len+1≤9223372036854775807)) &&
 true)
 (P0)))))
 (P0)))
 (P0))
def zl2 (w : web) (at_ : Int) (d : Tab) (out : (Sl Use)) : List step → (Bool × Int × (Sl Use))
  | []=>zsD w at_ d out
  | y :: r=>zsF w at_ d out y (zl2 w at_ d out r)
def zl3 (w : web) (at_ : Int) (d : Tab) (out : (Sl Use)) : List step → Bool
  | []=>zsE w at_ d out
  | y :: r=>zsG w at_ d out y (zl3 w at_ d out r)
def zzP (w:web) (at_:Int) (d:Tab) (out:(Sl Use)):(Bool×Int×(Sl Use)):=zl2 w at_ d out (zik w)
def zsH (w:web) (at_:Int) (d:Tab) (out:(Sl Use)):Bool:=decide ((zmi w=true)) && zl3 w at_ d out (zik w)
theorem zF6 (K:List PA×List XA→Prop) (w:web) (at_:Int) (d:Tab) (out:(Sl Use)) (hs:zsH w at_ d out=true) (hk:K (e92 w d (zzP w at_ d out))):zl1 K w at_ d out:=by
  unfold zsH at hs
  rw [Bool.and_eq_true] at hs
  obtain ⟨hsf,hs⟩:=hs
  have hc:=of_decide_eq_true hsf
  refine zzO K w at_ d out ⟨isE,rfl,hc⟩ ?_
  intro X0 hexit hstep
  have key:∀ (l:List step),zl3 w at_ d out l=true→K (e92 w d (zl2 w at_ d out l))→X0 (l.map fun y=>[.agg (zad y)]) (zgl w at_ d out):=by
    intro l
    induction l with
    | nil =>
      intro hs hk
      refine hexit () ?_
      have hs:zsE w at_ d out=true:=hs
      have hk:K (e92 w d (zsD w at_ d out)):=hk
      unfold zsE at hs
      unfold zsD at hk
      exact hk
    | cons y0 l ih =>
      intro hs hk
      refine hstep y0 _ () ?_
      have hs:zsG w at_ d out y0 (zl3 w at_ d out l)=true:=hs
      have hk:K (e92 w d (zsF w at_ d out y0 (zl2 w at_ d out l))):=hk
      unfold zsG at hs
      unfold zsF at hk
      generalize zl2 w at_ d out l=S0 at hk ih
      generalize zl3 w at_ d out l=P0 at hs ih
      have hX0:=ih
      exact (za0 (K := fun r => K (e92 w d r))
 (fun hs hk => (za4 hs fun hc hs => ⟨hc, (za0 (K := fun r => K (e92 w d r))
 (fun hs hk => (za4 hs fun hc hs => ⟨hc, (za4 hs fun hc hs => ⟨hc, (za4 hs fun hc hs => ⟨hc, (za0 (K := fun r => K (e92 w d r))
 (fun hs hk=>(za4 hs fun hc hs=>⟨hc,(Eq.mpr (congrArg K (congrArg (fun (g_:Nat→List PV)=>(([.one (.bool true)],[.box 102 [.p (.fp (zaC w) 0)],.box 3 [.p (.int .i64 y0.to)],.box 116 (xcm (zac d)),.box 67 [.vec 75 2 16 (out.len+1) g_]]):List PA×List XA)) (zk2 (enc:=za2) (f:=out.get) (h:=(fun _=>y0.Use)) rfl rfl))) hk)⟩))
 (fun hs hk=>(hX0 hs hk)) hs hk)⟩)⟩)⟩))
 (fun hs hk=>(hX0 hs hk)) hs hk)⟩))
 (fun hs hk=>(hX0 hs hk)) hs hk)
  exact key _ hs hk
def s92 (w:web) (at_:Int) (d:Tab) (out:(Sl Use)):(Bool×Int×(Sl Use)) :=
  (zzP w at_ d out)
def p92 (w:web) (at_:Int) (d:Tab) (out:(Sl Use)):Bool :=
  (zsH w at_ d out)
theorem q92 (w:web) (at_:Int) (d:Tab) (out:(Sl Use)) (K:List PA×List XA→Prop) (hs:p92 w at_ d out=true) (hk:K (e92 w d (s92 w at_ d out))):zkY Tryd.prog G92 zjL 92 [.box 102 [.p (.fp (zaC w) 0)],.box 3 [.p (.int .i64 at_)],.box 116 (xcm (zac d)),.box 67 [.vec 75 2 16 out.len (fun i=>za2 (out.get i))]] (fun a b=>K (a,b)):=by
  refine zbm (zF5 w at_ d out K) ?_
  unfold p92 at hs
  unfold s92 at hk
  exact ⟨⟨isE,rfl⟩,(zF6 K w at_ d out hs hk)⟩
def zF7 : MK
  | [.box 102 [.p (.fp [.int .i64 b0_Net_Nodes,.sl b0_Net_Ties_n b0_Net_Ties_s b0_Net_Ties_g,.fm b0_out_q b0_out_n b0_out_F] 0)],.box 3 [.p (.int .i64 b1)],.box 116 b2_cs,.box 67 [.vec 75 2 16 b3_n b3_g]]=>some (IsE zai 4 b0_Net_Ties_s b0_Net_Ties_g∧b0_out_q=(false,1,false,[none])∧b2_cs=xcm (zac (zbj (unX b2_cs)))∧IsE za2 2 2 b3_g∧p92 (⟨(⟨b0_Net_Nodes,(⟨b0_Net_Ties_n,zat b0_Net_Ties_g⟩:(Sl Tie))⟩:Net),(⟨b0_out_n,b0_out_F⟩:Mp)⟩:web) b1 (zbj (unX b2_cs)) (⟨b3_n,zdk b3_g⟩:(Sl Use))=true,[.one (.bool ((s92 (⟨(⟨b0_Net_Nodes,(⟨b0_Net_Ties_n,zat b0_Net_Ties_g⟩:(Sl Tie))⟩:Net),(⟨b0_out_n,b0_out_F⟩:Mp)⟩:web) b1 (zbj (unX b2_cs)) (⟨b3_n,zdk b3_g⟩:(Sl Use))).1))],[.box 102 [.p (.fp [.int .i64 b0_Net_Nodes,.sl b0_Net_Ties_n b0_Net_Ties_s b0_Net_Ties_g,.fm b0_out_q b0_out_n b0_out_F] 0)],.box 3 [.p (.int .i64 ((s92 (⟨(⟨b0_Net_Nodes,(⟨b0_Net_Ties_n,zat b0_Net_Ties_g⟩:(Sl Tie))⟩:Net),(⟨b0_out_n,b0_out_F⟩:Mp)⟩:web) b1 (zbj (unX b2_cs)) (⟨b3_n,zdk b3_g⟩:(Sl Use))).2.1))],.box 116 b2_cs,.box 67 [.vec 75 2 16 (((s92 (⟨(⟨b0_Net_Nodes,(⟨b0_Net_Ties_n,zat b0_Net_Ties_g⟩:(Sl Tie))⟩:Net),(⟨b0_out_n,b0_out_F⟩:Mp)⟩:web) b1 (zbj (unX b2_cs)) (⟨b3_n,zdk b3_g⟩:(Sl Use))).2.2).len) (fun i=>za2 (((s92 (⟨(⟨b0_Net_Nodes,(⟨b0_Net_Ties_n,zat b0_Net_Ties_g⟩:(Sl Tie))⟩:Net),(⟨b0_out_n,b0_out_F⟩:Mp)⟩:web) b1 (zbj (unX b2_cs)) (⟨b3_n,zdk b3_g⟩:(Sl Use))).2.2).get i))]])
  | _=>none
theorem zJp:zay Tryd.prog 92:=⟨_,rfl,rfl,by kernel_rfl⟩
theorem zMT:zjI Tryd.prog 92 zF7:=zEh zLk zJp fun xs safe rs ys h hs K hk=>by
  unfold zF7 at h
  split at h
  · rename_i b0_Net_Nodes b0_Net_Ties_n b0_Net_Ties_s b0_Net_Ties_g b0_out_q b0_out_n b0_out_F b1 b2_cs b3_n b3_g
    simp only [Option.some.injEq,Prod.mk.injEq] at h
    obtain ⟨rfl,rfl,rfl⟩:=h
    obtain ⟨⟨rfl,b0_Net_Ties_f,rfl⟩,rfl,hT_b2,⟨_,b3_f,rfl⟩,hs⟩:=hs
    try rw [zav b0_Net_Ties_f] at hs
    try rw [zav b0_Net_Ties_f] at hk
    try rw [zdl b3_f] at hs
    try rw [zdl b3_f] at hk
    refine ⟨fun _ _=>[],fun _=>false,zjL,?_⟩
    show zkY Tryd.prog G92 zjL 92 _ K
    have hq:=q92 (⟨(⟨b0_Net_Nodes,(⟨b0_Net_Ties_n,b0_Net_Ties_f⟩:(Sl Tie))⟩:Net),(⟨b0_out_n,b0_out_F⟩:Mp)⟩:web) b1 (zbj (unX b2_cs)) (⟨b3_n,b3_f⟩:(Sl Use)) (fun x=>K x.1 x.2) hs
    dsimp only [e92] at hq
    rw [← hT_b2] at hq
    exact hq hk
  · cases h
abbrev T54:Tabs:=(((Tabs.nil.addF 74 zxB).addF 75 zxL).addM 92 zF7)
theorem zLl:TabsOk Tryd.prog T54:=(((TabsOk.nil.addF zKJ).addF zKN).addM zMT)
abbrev G54:Ctrs:=csm T54 (fun _ _=>[]) (fun _=>false)
def zF8:Ann:=⟨45,[(0,zK [1,2,3] [3]),(1,zK [1,2,8,9] [8]),(2,zK [1,2,8,9,23] [8]),(3,zK [6,7] []),(4,zK [1,8,10] [8,10]),(5,zK [1,8,10,32] [8,10]),(6,zK [6,7] []),(7,zK [1,8,10,11] [8,10,11]),(8,zK [8,10,11,12] [8,10,11,12]),(9,zK [10,11,12,13] [8,10,11,12]),(10,zK [10,11,12,13,43] [8,10,11,12,5000]),(11,zK [6,7] [5000])],
 [(10,⟨[10,11,12,13],[8,10,11,12,5000],[],[(11,0,5000,75,fun _=>za2 default)],[],[],[]⟩)],
 [],
 [],[]⟩
abbrev R54:=((Sl Use)×Int)
abbrev e54 (r:R54):List PA:=[.one (.sl r.1.len 2 (fun i=>za2 (r.1.get i))),.one (.int .i64 r.2)]
@[irreducible] def z54:=ptF Tryd.prog G54 zF8 Tryd.f54
def zDm (n:Net) (from_a1:Int) (to:Int) (zhy:Int) (za9:(Sl Use)) (dt0:Tab) (zdw:Nat→List PV):St:=⟨[(10,zp 10 0),(11,zp 11 0),(12,zp 12 0),(13,.one (.c (.clo 92 [.b 8,.b 12,.b 10,.b 11])))],[(8,.box 102 [.p (.fp (zaC (⟨(s74 n (⟨2,zax (zbQ [(enc_3 from_a1),(enc_3 to)])⟩:(Sl Int))).1.Net,((s74 n (⟨2,zax (zbQ [(enc_3 from_a1),(enc_3 to)])⟩:(Sl Int))).1.out)⟩:web)) 0)]),(10,.box 116 (zm (zac dt0))),(11,.box 67 [.vec 5000]),(12,.box 3 [zi zhy]),(5000,.vec 75 2 16 za9.len zdw)],[]⟩
abbrev zJq (K:List PA→Prop) (n:Net) (from_a1:Int) (to:Int) (X:St→Prop) (P:Int→(Sl Use)→Tab→Bool) (S:Int→(Sl Use)→Tab→((Sl Use)×Int)):Prop:=∀ ⦃zhy:Int⦄ ⦃za9:(Sl Use)⦄ ⦃dt0:Tab⦄ ⦃zdw:Nat→List PV⦄,P zhy za9 dt0=true→K (e54 (S zhy za9 dt0))→zdw=zg za2 za9→X (zDm n from_a1 to zhy za9 dt0 zdw)
section
variable {K:List PA→Prop} {n:Net} {from_a1:Int} {to:Int} {zhy:Int} {za9:(Sl Use)} {dt0:Tab} {zdw:Nat→List PV} {X0:St→Prop} {P0:Int→(Sl Use)→Tab→Bool} {S0:Int→(Sl Use)→Tab→((Sl Use)×Int)}
def zzQ (n:Net) (from_a1:Int) (to:Int) (S0:Int→(Sl Use)→Tab→((Sl Use)×Int)) (zhy:Int) (za9:(Sl Use)) (dt0:Tab):((Sl Use)×Int) :=
  (cond (decide ((tg 80 dt0 (0 + zhy.toNat * 2 + 1)) > (0:Int)))
 (cond ((s92 (⟨(s74 n (⟨2, zax (zbQ [(enc_3 from_a1), (enc_3 to)])⟩ : (Sl Int))).1.Net, ((s74 n (⟨2, zax (zbQ [(enc_3 from_a1), (enc_3 to)])⟩ : (Sl Int))).1.out)⟩ : web) zhy (zbj (unX (xcm (zac dt0)))) (⟨za9.len, za9.get⟩ : (Sl Use))).1)
 (S0 ((s92 (⟨(s74 n (⟨2,zax (zbQ [(enc_3 from_a1),(enc_3 to)])⟩:(Sl Int))).1.Net,((s74 n (⟨2,zax (zbQ [(enc_3 from_a1),(enc_3 to)])⟩:(Sl Int))).1.out)⟩:web) zhy (zbj (unX (xcm (zac dt0)))) (⟨za9.len,za9.get⟩:(Sl Use))).2.1) ((s92 (⟨(s74 n (⟨2,zax (zbQ [(enc_3 from_a1),(enc_3 to)])⟩:(Sl Int))).1.Net,((s74 n (⟨2,zax (zbQ [(enc_3 from_a1),(enc_3 to)])⟩:(Sl Int))).1.out)⟩:web) zhy (zbj (unX (xcm (zac dt0)))) (⟨za9.len,za9.get⟩:(Sl Use))).2.2) dt0)
 (((s92 (⟨(s74 n (⟨2,zax (zbQ [(enc_3 from_a1),(enc_3 to)])⟩:(Sl Int))).1.Net,((s74 n (⟨2,zax (zbQ [(enc_3 from_a1),(enc_3 to)])⟩:(Sl Int))).1.out)⟩:web) zhy (zbj (unX (xcm (zac dt0)))) (⟨za9.len,za9.get⟩:(Sl Use))).2.2),(0:Int)))
 (za9,(0:Int)))
def zzR (n:Net) (from_a1:Int) (to:Int) (P0:Int→(Sl Use)→Tab→Bool) (zhy:Int) (za9:(Sl Use)) (dt0:Tab):Bool :=
  (decide ((0≤zhy∧zhy < (40:Int))) &&
 (cond (decide ((tg 80 dt0 (0 + zhy.toNat * 2 + 1)) > (0:Int)))
 (decide ((p92 (⟨(s74 n (⟨2,zax (zbQ [(enc_3 from_a1),(enc_3 to)])⟩:(Sl Int))).1.Net,((s74 n (⟨2,zax (zbQ [(enc_3 from_a1),(enc_3 to)])⟩:(Sl Int))).1.out)⟩:web) zhy (zbj (unX (xcm (zac dt0)))) (⟨za9.len,za9.get⟩:(Sl Use))=true)) &&
 (cond ((s92 (⟨(s74 n (⟨2, zax (zbQ [(enc_3 from_a1), (enc_3 to)])⟩ : (Sl Int))).1.Net, ((s74 n (⟨2, zax (zbQ [(enc_3 from_a1), (enc_3 to)])⟩ : (Sl Int))).1.out)⟩ : web) zhy (zbj (unX (xcm (zac dt0)))) (⟨za9.len, za9.get⟩ : (Sl Use))).1)
 (P0 ((s92 (⟨(s74 n (⟨2,zax (zbQ [(enc_3 from_a1),(enc_3 to)])⟩:(Sl Int))).1.Net,((s74 n (⟨2,zax (zbQ [(enc_3 from_a1),(enc_3 to)])⟩:(Sl Int))).1.out)⟩:web) zhy (zbj (unX (xcm (zac dt0)))) (⟨za9.len,za9.get⟩:(Sl Use))).2.1) ((s92 (⟨(s74 n (⟨2,zax (zbQ [(enc_3 from_a1),(enc_3 to)])⟩:(Sl Int))).1.Net,((s74 n (⟨2,zax (zbQ [(enc_3 from_a1),(enc_3 to)])⟩:(Sl Int))).1.out)⟩:web) zhy (zbj (unX (xcm (zac dt0)))) (⟨za9.len,za9.get⟩:(Sl Use))).2.2) dt0)
 true))
 true))
def zzS (n:Net) (from_a1:Int) (to:Int):Nat→Int→(Sl Use)→Tab→((Sl Use)×Int):=lpO (fun _ _ _=>default) (zzQ n from_a1 to)
def zzT (n:Net) (from_a1:Int) (to:Int):Nat→Int→(Sl Use)→Tab→Bool:=lpO (fun _ _ _=>false) (zzR n from_a1 to)
def zzU (n:Net) (from_a1:Int) (to:Int) (zhy:Int) (za9:(Sl Use)) (dt0:Tab):((Sl Use)×Int):=zzS n from_a1 to Fuel zhy za9 dt0
def zzV (n:Net) (from_a1:Int) (to:Int) (zhy:Int) (za9:(Sl Use)) (dt0:Tab):Bool:=zzT n from_a1 to Fuel zhy za9 dt0
theorem zF9 (hs:zzV n from_a1 to zhy za9 dt0=true) (hk:K (e54 (zzU n from_a1 to zhy za9 dt0))) (zl4:zdw=zg za2 za9):z54 (Wk K) [1,1,1,1,1,1,1,1,0,0] [] (zDm n from_a1 to zhy za9 dt0 zdw) :=
  zl (fun X=>z54 (Wk K) [1,1,1,1,1,1,1,1,0,0,0] [X]) (by kernel_rfl) fun X0 hX =>
  (show ∀ k, zJq K n from_a1 to X0 (zzT n from_a1 to k) (zzS n from_a1 to k) from zjK _ _ (zzR n from_a1 to) (zzQ n from_a1 to) (zJq K n from_a1 to X0)
 (by intro _ _ _ _ hs;exact absurd hs Bool.false_ne_true)
 (by intro P0 S0 hX0 zhy za9 dt0 zdw hs hk zl4;subst zl4;exact hX _ (zbm (by kernel_rfl) (za4 hs fun hc hs=>And.intro hc (zc hs hk (fun hs hk=>(za4 hs fun hc hs=>And.intro (And.intro (zE zai 4 ((s74 n (⟨2,zax (zbQ [(enc_3 from_a1),(enc_3 to)])⟩:(Sl Int))).1.Net.Ties.get)) (And.intro (rfl:((false,1,false,[none]):MQ)=(false,1,false,[none])) (And.intro (zEi:xcm (zac dt0)=xcm (zac (zbj (unX (xcm (zac dt0)))))) (And.intro (zE za2 2 za9.get) hc)))) (zc hs hk (fun hs hk=>(hX0 hs hk rfl)) (fun hs hk=>((zfX hk):Wk K [.one (.sl (((s92 (⟨(s74 n (⟨2,zax (zbQ [(enc_3 from_a1),(enc_3 to)])⟩:(Sl Int))).1.Net,((s74 n (⟨2,zax (zbQ [(enc_3 from_a1),(enc_3 to)])⟩:(Sl Int))).1.out)⟩:web) zhy (zbj (unX (xcm (zac dt0)))) (⟨za9.len,za9.get⟩:(Sl Use))).2.2).len) 2 (fun i=>za2 (((s92 (⟨(s74 n (⟨2,zax (zbQ [(enc_3 from_a1),(enc_3 to)])⟩:(Sl Int))).1.Net,((s74 n (⟨2,zax (zbQ [(enc_3 from_a1),(enc_3 to)])⟩:(Sl Int))).1.out)⟩:web) zhy (zbj (unX (xcm (zac dt0)))) (⟨za9.len,za9.get⟩:(Sl Use))).2.2).get i))),.one (.int .i64 (0:Int))]))))) (fun hs hk=>((zfX hk):Wk K [.one (.sl za9.len 2 (fun i=>za2 (za9.get i))),.one (.int .i64 (0:Int))]))))))) _ hs hk zl4
def s54 (n:Net) (from_a1:Int) (to:Int):((Sl Use)×Int) :=
  (cond ((s74 n (⟨2, zax (zbQ [(enc_3 from_a1), (enc_3 to)])⟩ : (Sl Int))).2 == 0)
 (cond ((0:Int) != (0:Int))
 ((⟨0,fun _=>default⟩:(Sl Use)),(0:Int))
 (cond (match ((tg 80 (s75 (⟨(s74 n (⟨2, zax (zbQ [(enc_3 from_a1), (enc_3 to)])⟩ : (Sl Int))).1.Net, ((s74 n (⟨2, zax (zbQ [(enc_3 from_a1), (enc_3 to)])⟩ : (Sl Int))).1.out)⟩ : web) to) (0 + from_a1.toNat * 2 + 0)) == (1000000000000:Int)) with | true => (match ((tg 80 (s75 (⟨(s74 n (⟨2, zax (zbQ [(enc_3 from_a1), (enc_3 to)])⟩ : (Sl Int))).1.Net, ((s74 n (⟨2, zax (zbQ [(enc_3 from_a1), (enc_3 to)])⟩ : (Sl Int))).1.out)⟩ : web) to) (0 + from_a1.toNat * 2 + 0 + 1)) == (0:Int)) with | true => true | false => false) | false => false)
 ((⟨0,fun _=>default⟩:(Sl Use)),(6:Int))
 (zzU n from_a1 to from_a1 (⟨0,(fun _=>default)⟩:Sl Use) (s75 (⟨(s74 n (⟨2,zax (zbQ [(enc_3 from_a1),(enc_3 to)])⟩:(Sl Int))).1.Net,((s74 n (⟨2,zax (zbQ [(enc_3 from_a1),(enc_3 to)])⟩:(Sl Int))).1.out)⟩:web) to))))
 (cond ((s74 n (⟨2, zax (zbQ [(enc_3 from_a1), (enc_3 to)])⟩ : (Sl Int))).2 != (0:Int))
 ((⟨0,fun _=>default⟩:(Sl Use)),(s74 n (⟨2,zax (zbQ [(enc_3 from_a1),(enc_3 to)])⟩:(Sl Int))).2)
 default))
def p54 (n:Net) (from_a1:Int) (to:Int):Bool :=
  (cond ((s74 n (⟨2, zax (zbQ [(enc_3 from_a1), (enc_3 to)])⟩ : (Sl Int))).2 == 0)
 (decide ((p74 n (⟨2,zax (zbQ [(enc_3 from_a1),(enc_3 to)])⟩:(Sl Int))=true)) &&
 (cond ((0:Int) != (0:Int))
 true
 (decide ((p75 (⟨(s74 n (⟨2,zax (zbQ [(enc_3 from_a1),(enc_3 to)])⟩:(Sl Int))).1.Net,((s74 n (⟨2,zax (zbQ [(enc_3 from_a1),(enc_3 to)])⟩:(Sl Int))).1.out)⟩:web) to=true)) &&
 (decide ((0≤from_a1∧from_a1 < (40:Int))) &&
 (cond (match ((tg 80 (s75 (⟨(s74 n (⟨2, zax (zbQ [(enc_3 from_a1), (enc_3 to)])⟩ : (Sl Int))).1.Net, ((s74 n (⟨2, zax (zbQ [(enc_3 from_a1), (enc_3 to)])⟩ : (Sl Int))).1.out)⟩ : web) to) (0 + from_a1.toNat * 2 + 0)) == (1000000000000:Int)) with | true => (match ((tg 80 (s75 (⟨(s74 n (⟨2, zax (zbQ [(enc_3 from_a1), (enc_3 to)])⟩ : (Sl Int))).1.Net, ((s74 n (⟨2, zax (zbQ [(enc_3 from_a1), (enc_3 to)])⟩ : (Sl Int))).1.out)⟩ : web) to) (0 + from_a1.toNat * 2 + 0 + 1)) == (0:Int)) with | true => true | false => false) | false => false)
 true
 (zzV n from_a1 to from_a1 (⟨0,(fun _=>default)⟩:Sl Use) (s75 (⟨(s74 n (⟨2,zax (zbQ [(enc_3 from_a1),(enc_3 to)])⟩:(Sl Int))).1.Net,((s74 n (⟨2,zax (zbQ [(enc_3 from_a1),(enc_3 to)])⟩:(Sl Int))).1.out)⟩:web) to)))))))
 (decide ((p74 n (⟨2,zax (zbQ [(enc_3 from_a1),(enc_3 to)])⟩:(Sl Int))=true)) &&
 (cond ((s74 n (⟨2, zax (zbQ [(enc_3 from_a1), (enc_3 to)])⟩ : (Sl Int))).2 != (0:Int))
 true
 false)))
end
theorem q54 (n:Net) (from_a1:Int) (to:Int) (K:List PA→Prop) (hs:p54 n from_a1 to=true) (hk:K (e54 (s54 n from_a1 to))):vcFun Tryd.prog G54 zF8 54 [.agg (zb5 n),.one (.int .i64 from_a1),.one (.int .i64 to)] (Wk K) :=
  zbm (by kernel_rfl) (zc hs hk (fun hs hk=>(za4 hs fun hc hs=>And.intro (And.intro (zE zai 4 n.Ties.get) (And.intro ((zet []):IsE enc_3 1 1 (zbQ [(enc_3 from_a1),(enc_3 to)])) hc)) (zc hs hk (fun hs hk=>((wk hk (ze2 (.one (.nil _ _)) (ze2 (.one (.rfl _)) zmh))):Wk K [.one (.nils),.one (.int .i64 (0:Int))])) (fun hs hk=>(za4 hs fun hc hs=>And.intro (And.intro (zE zai 4 ((s74 n (⟨2,zax (zbQ [(enc_3 from_a1),(enc_3 to)])⟩:(Sl Int))).1.Net.Ties.get)) (And.intro (rfl:((false,1,false,[none]):MQ)=(false,1,false,[none])) hc)) (za4 hs fun hc hs=>And.intro hc (zc hs hk (fun hs hk=>((wk hk (ze2 (.one (.nil _ _)) (ze2 (.one (.rfl _)) zmh))):Wk K [.one (.nils),.one (.int .i64 (6:Int))])) (fun hs hk=>(zF9 hs hk rfl))))))))) (fun hs hk=>(za4 hs fun hc hs=>And.intro (And.intro (zE zai 4 n.Ties.get) (And.intro ((zet []):IsE enc_3 1 1 (zbQ [(enc_3 from_a1),(enc_3 to)])) hc)) (zc hs hk (fun hs hk=>((wk hk (ze2 (.one (.nil _ _)) (ze2 (.one (.rfl _)) zmh))):Wk K [.one (.nils),.one (.int .i64 ((s74 n (⟨2,zax (zbQ [(enc_3 from_a1),(enc_3 to)])⟩:(Sl Int))).2))])) (fun hs hk=>(absurd hs Bool.false_ne_true:False))))))
def zGa : List PA → COut
  | [.agg [.int .i64 zan,.sl zaj zaR zah],.one (.int .i64 a1),.one (.int .i64 a2)]=>.det (IsE zai 4 zaR zah∧p54 (⟨zan,(⟨zaj,zat zah⟩:(Sl Tie))⟩:Net) a1 a2=true) [.one (.sl (((s54 (⟨zan,(⟨zaj,zat zah⟩:(Sl Tie))⟩:Net) a1 a2).1).len) 2 (fun i=>za2 (((s54 (⟨zan,(⟨zaj,zat zah⟩:(Sl Tie))⟩:Net) a1 a2).1).get i))),.one (.int .i64 ((s54 (⟨zan,(⟨zaj,zat zah⟩:(Sl Tie))⟩:Net) a1 a2).2))]
  | _=>.no
theorem zJr:zay Tryd.prog 54:=⟨_,rfl,rfl,by kernel_rfl⟩
theorem zMU:Ok Tryd.prog 54 zGa:=zhc zLl zJr fun args K h=>by
  unfold zGa at h
  split at h
  · rename_i zan zaj zaR zah a1 a2
    obtain ⟨⟨⟨rfl,zaH,rfl⟩,hs⟩,hk⟩:=h
    try rw [zav zaH] at hs
    try rw [zav zaH] at hk
    exact ⟨_,zfy zfW _,(fun _ _=>[]),(fun _=>false),zF8,q54 (⟨zan,(⟨zaj,zaH⟩:(Sl Tie))⟩:Net) a1 a2 K hs hk⟩
  · exact h.elim
abbrev T66:Tabs:=Tabs.nil
theorem zLm:TabsOk Tryd.prog T66:=TabsOk.nil
abbrev G66:Ctrs:=csm T66 (fun _ _=>[]) (fun _=>false)
def zJs:Ann:=⟨6,[(0,zK [0] [0]),(1,zK [0] [0,4])],
 [],
 [],
 [],[]⟩
abbrev R66:=Net
abbrev e66 (r:R66):List PA:=[.agg [.int .i64 r.Nodes,.sl r.Ties.len 4 (fun i=>zai (r.Ties.get i))]]
section
variable {K:List PA→Prop}
def s66:Net :=
  (⟨(3:Int),(⟨3,(zqF (⟨(0:Int),(1:Int),(5:Int),(8:Int)⟩:Tie) [(⟨(0:Int),(1:Int),(5:Int),(8:Int)⟩:Tie),(⟨(1:Int),(2:Int),(-2:Int),(3:Int)⟩:Tie),(⟨(2:Int),(0:Int),(-9:Int),(1000000000000:Int)⟩:Tie)])⟩:(Sl Tie))⟩:Net)
end
theorem q66 (K:List PA→Prop) (hk:K (e66 (s66))):vcFun Tryd.prog G66 zJs 66 [] K :=
  zbm (by kernel_rfl) (Eq.mpr (congrArg K (congrArg (fun (g_:Nat→List PV)=>([.agg [.int .i64 (3:Int),.sl 3 4 g_]]:List PA)) (zt8 (enc:=zai) (x:=(⟨(0:Int),(1:Int),(5:Int),(8:Int)⟩:Tie)) (y:=(⟨(1:Int),(2:Int),(-2:Int),(3:Int)⟩:Tie)) (r:=[(⟨(2:Int),(0:Int),(-9:Int),(1000000000000:Int)⟩:Tie)])))) hk)
def zGb : List PA → COut
  | []=>.tot [.agg [.int .i64 ((s66).Nodes),.sl ((s66).Ties.len) 4 (fun i=>zai ((s66).Ties.get i))]]
  | _=>.no
theorem zJt:zay Tryd.prog 66:=⟨_,rfl,rfl,by kernel_rfl⟩
theorem zMV:Ok Tryd.prog 66 zGb:=zbY zLm zJt fun args K h=>by
  unfold zGb at h
  split at h
  · have hk := h
    exact ⟨(fun _ _=>[]),(fun _=>false),zJs,q66 K hk⟩
  · exact h.elim
abbrev T21:Tabs:=((((((((((Tabs.nil.addF 22 zFz).addF 25 zFD).addF 26 zBS).addF 29 zFE).addF 32 zFI).addF 45 zFR).addF 49 zF0).addF 53 zF4).addF 54 zGa).addF 66 zGb)
theorem zLn:TabsOk Tryd.prog T21:=((((((((((TabsOk.nil.addF zMK).addF zML).addF zLW).addF zMM).addF ok32).addF zMQ).addF zMR).addF zMS).addF zMU).addF zMV)
abbrev G21:Ctrs:=csm T21 (fun _ _=>[]) (fun _=>false)
def zGc:Ann:=⟨87,[(0,zK [] []),(1,zK [1,2] []),(2,zK [1,2,3,4] []),(3,zK [1,2,3,4,5,6] []),(4,zK [1,2,3,4,5,6,7] [7]),(5,zK [1,2,3,4,5,6,7,8,9] [7]),(6,zK [1,2,3,4,5,6,8,9,10,11] []),(7,zK [1,3,5,8,10,57] []),(8,zK [0] []),(9,zK [0] [])],
 [],
 [(2,zK [1,2] []),(3,zK [1,2,3,4] []),(4,zK [1,2,3,4,5,6] []),(5,zK [1,2,3,4,5,6,7] [7]),(6,zK [1,2,3,4,5,6,7,8,9] [7]),(7,zK [1,2,3,4,5,6,8,9,10,11] []),(9,zK [1,3,5,8,10] [])],
 [],[]⟩
abbrev R21:=Bool
abbrev e21 (r:R21):List PA:=[.one (.bool r)]
@[irreducible] def z21:=ptF Tryd.prog G21 zGc Tryd.f21
section
variable {K:List PA→Prop} {bv0:(Sl Span)} {ev0:Int} {zJu:Nat→List PV} {cv1:(Sl Use)} {fv1:Int} {zJv:Nat→List PV} {vv2:(Sl Int)} {gv2:Int} {zJw:Nat→List PV} {zej:Int} {zdB:(Sl Tie)} {zzW:Nat→List PV} {xv4:(Sl Use)} {hv4:Int} {zJx:Nat→List PV} {lv5:(Sl Int)} {iv5:Int} {zJy:Nat→List PV}
def zzX (bv0:(Sl Span)) (cv1:(Sl Use)) (vv2:(Sl Int)) (xv4:(Sl Use)) (lv5:(Sl Int)):Bool :=
  (cond (s32 bv0 (⟨3, zfY (zbQ [(zbG (⟨(0:Int), (0:Int)⟩ : Span)), (zbG (⟨(5:Int), (8:Int)⟩ : Span)), (zbG (⟨(3:Int), (9:Int)⟩ : Span))])⟩ : (Sl Span)))
 (cond (s53 cv1 (⟨1, fun _ => (⟨(2:Int), true⟩ : Use)⟩ : (Sl Use)))
 (cond (s25 vv2 (⟨3, zax (zbQ [(enc_3 (0:Int)), (enc_3 (5:Int)), (enc_3 (8:Int))])⟩ : (Sl Int)))
 (cond (s53 xv4 (⟨2, zdk (zbQ [(za2 (⟨(2:Int), true⟩ : Use)), (za2 (⟨(3:Int), true⟩ : Use))])⟩ : (Sl Use)))
 (s25 lv5 (⟨1,fun _=>(2:Int)⟩:(Sl Int)))
 false)
 false)
 false)
 false)
def zzY (bv0:(Sl Span)) (cv1:(Sl Use)) (vv2:(Sl Int)) (xv4:(Sl Use)) (lv5:(Sl Int)):Bool :=
  (decide ((p32 bv0 (⟨3,zfY (zbQ [(zbG (⟨(0:Int),(0:Int)⟩:Span)),(zbG (⟨(5:Int),(8:Int)⟩:Span)),(zbG (⟨(3:Int),(9:Int)⟩:Span))])⟩:(Sl Span))=true)) &&
 (cond (s32 bv0 (⟨3, zfY (zbQ [(zbG (⟨(0:Int), (0:Int)⟩ : Span)), (zbG (⟨(5:Int), (8:Int)⟩ : Span)), (zbG (⟨(3:Int), (9:Int)⟩ : Span))])⟩ : (Sl Span)))
 (decide ((p53 cv1 (⟨1,fun _=>(⟨(2:Int),true⟩:Use)⟩:(Sl Use))=true)) &&
 (cond (s53 cv1 (⟨1, fun _ => (⟨(2:Int), true⟩ : Use)⟩ : (Sl Use)))
 (decide ((p25 vv2 (⟨3,zax (zbQ [(enc_3 (0:Int)),(enc_3 (5:Int)),(enc_3 (8:Int))])⟩:(Sl Int))=true)) &&
 (cond (s25 vv2 (⟨3, zax (zbQ [(enc_3 (0:Int)), (enc_3 (5:Int)), (enc_3 (8:Int))])⟩ : (Sl Int)))
 (decide ((p53 xv4 (⟨2,zdk (zbQ [(za2 (⟨(2:Int),true⟩:Use)),(za2 (⟨(3:Int),true⟩:Use))])⟩:(Sl Use))=true)) &&
 (cond (s53 xv4 (⟨2, zdk (zbQ [(za2 (⟨(2:Int), true⟩ : Use)), (za2 (⟨(3:Int), true⟩ : Use))])⟩ : (Sl Use)))
 (decide ((p25 lv5 (⟨1,fun _=>(2:Int)⟩:(Sl Int))=true)) &&
 true)
 true))
 true))
 true))
 true))
theorem zGd (hs:zzY bv0 cv1 vv2 xv4 lv5=true) (hk:K (e21 (zzX bv0 cv1 vv2 xv4 lv5))):z21 K [1,1,1,1,1,1,1,1] [] ⟨[(1,zS zbG 2 bv0),(3,zS za2 2 cv1),(5,zS enc_3 1 vv2),(8,zS za2 2 xv4),(10,zS enc_3 1 lv5)],[],[]⟩:=zbm (by kernel_rfl) (za4 hs fun hc hs=>And.intro (And.intro (zE zbG 2 bv0.get) (And.intro ((zet [(⟨(3:Int),(9:Int)⟩:Span)]):IsE zbG 2 2 (zbQ [(zbG (⟨(0:Int),(0:Int)⟩:Span)),(zbG (⟨(5:Int),(8:Int)⟩:Span)),(zbG (⟨(3:Int),(9:Int)⟩:Span))])) hc)) (zc hs hk (fun hs hk=>(za4 hs fun hc hs=>And.intro (And.intro (zE za2 2 cv1.get) (And.intro (zxj:IsE za2 2 2 (fun _=>(za2 (⟨(2:Int),true⟩:Use)))) hc)) (zc hs hk (fun hs hk=>(za4 hs fun hc hs=>And.intro (And.intro (zE enc_3 1 vv2.get) (And.intro ((zet [(8:Int)]):IsE enc_3 1 1 (zbQ [(enc_3 (0:Int)),(enc_3 (5:Int)),(enc_3 (8:Int))])) hc)) (zc hs hk (fun hs hk=>(za4 hs fun hc hs=>And.intro (And.intro (zE za2 2 xv4.get) (And.intro ((zet []):IsE za2 2 2 (zbQ [(za2 (⟨(2:Int),true⟩:Use)),(za2 (⟨(3:Int),true⟩:Use))])) hc)) (zc hs hk (fun hs hk=>(za4 hs fun hc hs=>And.intro (And.intro (zE enc_3 1 lv5.get) (And.intro (zxj:IsE enc_3 1 1 (fun _=>(enc_3 (2:Int)))) hc)) hk)) (fun hs hk=>hk)))) (fun hs hk=>hk)))) (fun hs hk=>hk)))) (fun hs hk=>hk)))
def zzZ (bv0:(Sl Span)) (ev0:Int) (cv1:(Sl Use)) (fv1:Int) (vv2:(Sl Int)) (gv2:Int) (xv4:(Sl Use)) (hv4:Int) (lv5:(Sl Int)) (iv5:Int):Bool :=
  (cond (ev0 != (0:Int))
 false
 (cond (fv1 != (0:Int))
 false
 (cond (gv2 != (0:Int))
 false
 (cond (hv4 != (0:Int))
 false
 (cond (iv5 != (0:Int))
 false
 (zzX bv0 cv1 vv2 xv4 lv5))))))
def zz0 (bv0:(Sl Span)) (ev0:Int) (cv1:(Sl Use)) (fv1:Int) (vv2:(Sl Int)) (gv2:Int) (xv4:(Sl Use)) (hv4:Int) (lv5:(Sl Int)) (iv5:Int):Bool :=
  (cond (ev0 != (0:Int))
 true
 (cond (fv1 != (0:Int))
 true
 (cond (gv2 != (0:Int))
 true
 (cond (hv4 != (0:Int))
 true
 (cond (iv5 != (0:Int))
 true
 (zzY bv0 cv1 vv2 xv4 lv5))))))
theorem zGe (hs:zz0 bv0 ev0 cv1 fv1 vv2 gv2 xv4 hv4 lv5 iv5=true) (hk:K (e21 (zzZ bv0 ev0 cv1 fv1 vv2 gv2 xv4 hv4 lv5 iv5))) (zLo:zJy=zg enc_3 lv5):z21 K [1,1,1,1,1,1,1] [] ⟨[(1,zS zbG 2 bv0),(2,zI ev0),(3,zS za2 2 cv1),(4,zI fv1),(5,zS enc_3 1 vv2),(6,zI gv2),(8,zS za2 2 xv4),(9,zI hv4),(10,zP (.sl lv5.len 1 zJy)),(11,zI iv5)],[],[]⟩:=by subst zLo;exact zbm (by kernel_rfl) (zc hs hk (fun hs hk=>hk) (fun hs hk=>(zc hs hk (fun hs hk=>hk) (fun hs hk=>(zc hs hk (fun hs hk=>hk) (fun hs hk=>(zc hs hk (fun hs hk=>hk) (fun hs hk=>(zc hs hk (fun hs hk=>hk) (fun hs hk=>(zGd hs hk)))))))))))
def zz1 (bv0:(Sl Span)) (ev0:Int) (cv1:(Sl Use)) (fv1:Int) (vv2:(Sl Int)) (gv2:Int) (zej:Int) (zdB:(Sl Tie)) (xv4:(Sl Use)) (hv4:Int):Bool :=
  (zzZ bv0 ev0 cv1 fv1 vv2 gv2 xv4 hv4 ((s22 (⟨zej,zdB⟩:Net)).1) ((s22 (⟨zej,zdB⟩:Net)).2))
def zz2 (bv0:(Sl Span)) (ev0:Int) (cv1:(Sl Use)) (fv1:Int) (vv2:(Sl Int)) (gv2:Int) (zej:Int) (zdB:(Sl Tie)) (xv4:(Sl Use)) (hv4:Int):Bool :=
  (decide ((p22 (⟨zej,zdB⟩:Net)=true)) &&
 (zz0 bv0 ev0 cv1 fv1 vv2 gv2 xv4 hv4 ((s22 (⟨zej,zdB⟩:Net)).1) ((s22 (⟨zej,zdB⟩:Net)).2)))
theorem zGf (hs:zz2 bv0 ev0 cv1 fv1 vv2 gv2 zej zdB xv4 hv4=true) (hk:K (e21 (zz1 bv0 ev0 cv1 fv1 vv2 gv2 zej zdB xv4 hv4))) (zLp:zJx=zg za2 xv4):z21 K [1,1,1,1,1,1] [] ⟨[(1,zS zbG 2 bv0),(2,zI ev0),(3,zS za2 2 cv1),(4,zI fv1),(5,zS enc_3 1 vv2),(6,zI gv2),(7,zp 7 0),(8,zP (.sl xv4.len 2 zJx)),(9,zI hv4)],[(7,.box 24 (zm (zb5 (⟨zej,zdB⟩:Net))))],[]⟩:=by subst zLp;exact zbm (by kernel_rfl) (za4 hs fun hc hs=>And.intro (And.intro (zE zai 4 zdB.get) hc) (zGe hs hk rfl))
def zz3 (bv0:(Sl Span)) (ev0:Int) (cv1:(Sl Use)) (fv1:Int) (vv2:(Sl Int)) (gv2:Int) (zej:Int) (zdB:(Sl Tie)):Bool :=
  (zz1 bv0 ev0 cv1 fv1 vv2 gv2 zej zdB ((s49 (⟨zej,zdB⟩:Net)).1) ((s49 (⟨zej,zdB⟩:Net)).2))
def zz4 (bv0:(Sl Span)) (ev0:Int) (cv1:(Sl Use)) (fv1:Int) (vv2:(Sl Int)) (gv2:Int) (zej:Int) (zdB:(Sl Tie)):Bool :=
  (decide ((p49 (⟨zej,zdB⟩:Net)=true)) &&
 (zz2 bv0 ev0 cv1 fv1 vv2 gv2 zej zdB ((s49 (⟨zej,zdB⟩:Net)).1) ((s49 (⟨zej,zdB⟩:Net)).2)))
theorem zGg (hs:zz4 bv0 ev0 cv1 fv1 vv2 gv2 zej zdB=true) (hk:K (e21 (zz3 bv0 ev0 cv1 fv1 vv2 gv2 zej zdB))) (zGh:zzW=zg zai zdB):z21 K [1,1,1,1,1] [] ⟨[(1,zS zbG 2 bv0),(2,zI ev0),(3,zS za2 2 cv1),(4,zI fv1),(5,zS enc_3 1 vv2),(6,zI gv2),(7,zp 7 0)],[(7,.box 24 [zi zej,.p (.sl zdB.len 4 zzW)])],[]⟩:=by subst zGh;exact zbm (by kernel_rfl) (za4 hs fun hc hs=>And.intro (And.intro (zE zai 4 zdB.get) hc) (zGf hs hk rfl))
def zz5 (bv0:(Sl Span)) (ev0:Int) (cv1:(Sl Use)) (fv1:Int) (vv2:(Sl Int)) (gv2:Int):Bool :=
  (zz3 bv0 ev0 cv1 fv1 vv2 gv2 ((s29 s66 (⟨(0:Int),(2:Int),(10:Int),(12:Int)⟩:Tie)).Nodes) ((s29 s66 (⟨(0:Int),(2:Int),(10:Int),(12:Int)⟩:Tie)).Ties))
def zz6 (bv0:(Sl Span)) (ev0:Int) (cv1:(Sl Use)) (fv1:Int) (vv2:(Sl Int)) (gv2:Int):Bool :=
  (decide ((p29 s66 (⟨(0:Int),(2:Int),(10:Int),(12:Int)⟩:Tie)=true)) &&
 (zz4 bv0 ev0 cv1 fv1 vv2 gv2 ((s29 s66 (⟨(0:Int),(2:Int),(10:Int),(12:Int)⟩:Tie)).Nodes) ((s29 s66 (⟨(0:Int),(2:Int),(10:Int),(12:Int)⟩:Tie)).Ties)))
theorem zGi (hs:zz6 bv0 ev0 cv1 fv1 vv2 gv2=true) (hk:K (e21 (zz5 bv0 ev0 cv1 fv1 vv2 gv2))) (zLq:zJw=zg enc_3 vv2):z21 K [1,1,1,1] [] ⟨[(1,zS zbG 2 bv0),(2,zI ev0),(3,zS za2 2 cv1),(4,zI fv1),(5,zP (.sl vv2.len 1 zJw)),(6,zI gv2)],[],[]⟩:=by subst zLq;exact zbm (by kernel_rfl) (za4 hs fun hc hs=>And.intro (And.intro (zE zai 4 s66.Ties.get) hc) (zGg hs hk rfl))
def zz7 (bv0:(Sl Span)) (ev0:Int) (cv1:(Sl Use)) (fv1:Int):Bool :=
  (zz5 bv0 ev0 cv1 fv1 ((s45 s66 (1:Int) (0:Int)).1) ((s45 s66 (1:Int) (0:Int)).2))
def zz8 (bv0:(Sl Span)) (ev0:Int) (cv1:(Sl Use)) (fv1:Int):Bool :=
  (decide ((p45 s66 (1:Int) (0:Int)=true)) &&
 (zz6 bv0 ev0 cv1 fv1 ((s45 s66 (1:Int) (0:Int)).1) ((s45 s66 (1:Int) (0:Int)).2)))
theorem zGj (hs:zz8 bv0 ev0 cv1 fv1=true) (hk:K (e21 (zz7 bv0 ev0 cv1 fv1))) (zLr:zJv=zg za2 cv1):z21 K [1,1,1] [] ⟨[(1,zS zbG 2 bv0),(2,zI ev0),(3,zP (.sl cv1.len 2 zJv)),(4,zI fv1)],[],[]⟩:=by subst zLr;exact zbm (by kernel_rfl) (za4 hs fun hc hs=>And.intro (And.intro (zE zai 4 s66.Ties.get) hc) (zGi hs hk rfl))
def zz9 (bv0:(Sl Span)) (ev0:Int):Bool :=
  (zz7 bv0 ev0 ((s54 s66 (0:Int) (2:Int)).1) ((s54 s66 (0:Int) (2:Int)).2))
def zAa (bv0:(Sl Span)) (ev0:Int):Bool :=
  (decide ((p54 s66 (0:Int) (2:Int)=true)) &&
 (zz8 bv0 ev0 ((s54 s66 (0:Int) (2:Int)).1) ((s54 s66 (0:Int) (2:Int)).2)))
theorem zGk (hs:zAa bv0 ev0=true) (hk:K (e21 (zz9 bv0 ev0))) (zLs:zJu=zg zbG bv0):z21 K [1,1] [] ⟨[(1,zP (.sl bv0.len 2 zJu)),(2,zI ev0)],[],[]⟩:=by subst zLs;exact zbm (by kernel_rfl) (za4 hs fun hc hs=>And.intro (And.intro (zE zai 4 s66.Ties.get) hc) (zGj hs hk rfl))
def s21:Bool :=
  (zz9 ((s26 s66).1) ((s26 s66).2))
def p21:Bool :=
  (decide ((p26 s66=true)) &&
 (zAa ((s26 s66).1) ((s26 s66).2)))
end
theorem q21 (K:List PA→Prop) (hs:p21=true) (hk:K (e21 (s21))):vcFun Tryd.prog G21 zGc 21 [] K :=
  zbm (by kernel_rfl) (za4 hs fun hc hs=>And.intro (And.intro (zE zai 4 s66.Ties.get) hc) (zGk hs hk rfl))
theorem zJz:p21=true:=by kernel_rfl
theorem zJA:s21=true:=by kernel_rfl
def zGl : List PA → COut
  | []=>.tot [.one (.bool true)]
  | _=>.no
theorem zJB:zay Tryd.prog 21:=⟨_,rfl,rfl,by kernel_rfl⟩
theorem zMW:Ok Tryd.prog 21 zGl:=zbY zLn zJB fun args K h=>by
  unfold zGl at h
  split at h
  · refine ⟨fun _ _ => [], fun _ => false, zGc, q21 K zJz ?_⟩
    show K [.one (.bool s21)]
    rw [zJA];exact h
  · exact h.elim
abbrev T40:Tabs:=((Tabs.nil.addF 67 zrk).addF 81 zrh)
theorem zLt:TabsOk Tryd.prog T40:=((TabsOk.nil.addF zIn).addF zIk)
abbrev G40:Ctrs:=csm T40 (fun _ _=>[]) (fun _=>false)
def zGm:Ann:=⟨99,[(0,zK [0,1,4] [4]),(1,zK [0,1,4,12] [4]),(2,zK [4,5] [4]),(3,zK [1,4,6] [4,6]),(4,zK [4,6,16,17,18] [4,6]),(5,zK [4,6,16,17,18,19] [4,6,91]),(6,zK [4,6,8,16,17,18] [4,6,8,91]),(7,zK [4,6,8,16,17,18,60] [4,6,8,91]),(8,zK [4,5] [4]),(9,zK [4,6,8,9,16,17,18] [4,6,8,91]),(10,zK [4,6,16,17,18] [4,6,91]),(11,zK [4,6,16,17,18] [4,6,91]),(12,zK [4,6,96] [4,6,91]),(13,zK [4,5] [4]),(14,zK [4,5] [4,91])],
 [(5,⟨[4,6,16,17,18],[4,6,91],[],[(6,1,91,40,fun _=>zai default)],[],[],[]⟩)],
 [(3,zK [0,1,4] [4]),(8,zK [4,6,8,16,17,18,60] [4,6,8,91]),(13,zK [4,6,96] [4,6,91]),(9,zK [4,6,8,16,17,18] [4,6,8,91])],
 [],[]⟩
abbrev R40:=(Net×Int)
abbrev e40 (r:R40):List PA:=[.agg [.int .i64 r.1.Nodes,.sl r.1.Ties.len 4 (fun i=>zai (r.1.Ties.get i))],.one (.int .i64 r.2)]
@[irreducible] def z40:=ptF Tryd.prog G40 zGm Tryd.f40
def zDn (nodes:Int) (pulses:(Sl Pulse)) (zau:Int) (zcU:(Sl Tie)) (zgm:Nat→List PV):St:=⟨[(4,zp 4 0),(6,zp 6 0),(16,zS zdD 7 pulses),(17,zI (pulses.len:Int)),(18,zI zau)],[(4,.box 24 [zi (0:Int),.p (.nils)]),(6,.box 24 [zi nodes,.vec 91]),(91,.vec 40 4 32 zcU.len zgm)],[]⟩
abbrev zCg (K:List PA→Prop) (nodes:Int) (pulses:(Sl Pulse)) (X:St→Prop) (P:Int→(Sl Tie)→Bool) (S:Int→(Sl Tie)→(Net×Int)):Prop:=∀ ⦃zau:Int⦄ ⦃zcU:(Sl Tie)⦄ ⦃zgm:Nat→List PV⦄,P zau zcU=true→K (e40 (S zau zcU))→zgm=zg zai zcU→X (zDn nodes pulses zau zcU zgm)
section
variable {K:List PA→Prop} {nodes:Int} {pulses:(Sl Pulse)} {zau:Int} {zcU:(Sl Tie)} {zgm:Nat→List PV} {X1:St→Prop} {P1:Int→(Sl Tie)→Bool} {S1:Int→(Sl Tie)→(Net×Int)} {zsI:Int} {zsJ:Bool} {zsK:Int} {zsL:Int} {zsM:Int} {zsN:Int} {zsO:Int} {zsP:Int} {zsQ:Int} {zqn:(Sl Tie)} {zAb:Nat→List PV} {zCh:Bool} {zsR:(Sl Tie)} {zAc:Nat→List PV} {zci:Int} {zor:Int} {zos:Int} {zjM:Int} {zjN:Int} {zot:Int} {zou:Int} {zjO:Int} {zhs:(Sl Tie)} {zAd:Nat→List PV}
def zsS (S1:Int→(Sl Tie)→(Net×Int)) (nodes:Int) (pulses:(Sl Pulse)) (zci:Int) (zor:Int) (zos:Int) (zjM:Int) (zjN:Int) (zot:Int) (zou:Int) (zjO:Int) (zhs:(Sl Tie)):(Net×Int) :=
  (S1 (w64 (zci+(1:Int))) (⟨(zhs.len+1),(zjZ zhs.len zhs.get (fun _=>(⟨zor,zos,(w64 ((w64 ((w64 (zjN - zjM)) - zou)) - zjO)),(w64 ((w64 ((w64 (zjN - zjM)) - zot))+zjO))⟩:Tie)))⟩:Sl Tie))
def zsU (P1:Int→(Sl Tie)→Bool) (nodes:Int) (pulses:(Sl Pulse)) (zci:Int) (zor:Int) (zos:Int) (zjM:Int) (zjN:Int) (zot:Int) (zou:Int) (zjO:Int) (zhs:(Sl Tie)):Bool :=
  (decide (((zhs.len+1) * 32≤140737488355328∧zhs.len+1≤9223372036854775807)) &&
 (P1 (w64 (zci+(1:Int))) (⟨(zhs.len+1),(zjZ zhs.len zhs.get (fun _=>(⟨zor,zos,(w64 ((w64 ((w64 (zjN - zjM)) - zou)) - zjO)),(w64 ((w64 ((w64 (zjN - zjM)) - zot))+zjO))⟩:Tie)))⟩:Sl Tie)))
theorem zGn (hX1:zCg K nodes pulses X1 P1 S1) (hs:zsU P1 nodes pulses zci zor zos zjM zjN zot zou zjO zhs=true) (hk:K (e40 (zsS S1 nodes pulses zci zor zos zjM zjN zot zou zjO zhs))) (zGo:zAd=zg zai zhs):z40 (Wk K) [1,1,1,0,1,0,0,1,1,0,0,1,1] [X1] ⟨[(4,zp 4 0),(6,zp 6 0),(8,zp 8 0),(16,zS zdD 7 pulses),(17,zI (pulses.len:Int)),(18,zI zci)],[(4,.box 24 [zi (0:Int),.p (.nils)]),(6,.box 24 [zi nodes,.vec 91]),(8,.box 85 (zm (zdD (⟨zor,zos,zjM,zjN,(⟨zot,zou⟩:Span),zjO⟩:Pulse)))),(91,.vec 40 4 32 zhs.len zAd)],[]⟩:=by subst zGo;exact zbm (by kernel_rfl) (za4 hs fun hc hs=>And.intro hc (hX1 hs hk (zk2 (enc:=zai) (f:=zhs.get) (h:=(fun _=>(⟨zor,zos,(w64 ((w64 ((w64 (zjN - zjM)) - zou)) - zjO)),(w64 ((w64 ((w64 (zjN - zjM)) - zot))+zjO))⟩:Tie))) rfl rfl)))
def zov (nodes:Int) (zCh:Bool) (zsR:(Sl Tie)):(Net×Int) :=
  (cond zCh
 ((⟨(0:Int),(⟨0,fun _=>default⟩:(Sl Tie))⟩:Net),(2:Int))
 ((⟨nodes,zsR⟩:Net),(0:Int)))
theorem zGp (hk:K (e40 (zov nodes zCh zsR))) (zGq:zAc=zg zai zsR):z40 (Wk K) [1,1,1,1,0,1] [] ⟨[(4,zp 4 0),(6,zp 6 0),(96,zB zCh)],[(4,.box 24 [zi (0:Int),.p (.nils)]),(6,.box 24 [zi nodes,.vec 91]),(91,.vec 40 4 32 zsR.len zAc)],[]⟩:=by subst zGq;exact zbm (by kernel_rfl) (zt hk (fun hk=>((wk hk (ze2 (.agg (ze2 (.rfl _) (ze2 (.nil _ _) zmh))) (ze2 (.one (.rfl _)) zmh))):Wk K [.agg [.int .i64 (0:Int),.nils],.one (.int .i64 (2:Int))])) (fun hk=>((zfX hk):Wk K [.agg [.int .i64 nodes,.sl zsR.len 4 (fun i=>zai (zsR.get i))],.one (.int .i64 (0:Int))])))
def zgn (S1:Int→(Sl Tie)→(Net×Int)) (nodes:Int) (pulses:(Sl Pulse)) (zsI:Int) (zsJ:Bool) (zsK:Int) (zsL:Int) (zsM:Int) (zsN:Int) (zsO:Int) (zsP:Int) (zsQ:Int) (zqn:(Sl Tie)):(Net×Int) :=
  (cond zsJ
 ((⟨(0:Int),(⟨0,fun _=>default⟩:(Sl Tie))⟩:Net),(2:Int))
 (zsS S1 nodes pulses zsI zsK zsL zsM zsN zsO zsP zsQ zqn))
def zgo (P1:Int→(Sl Tie)→Bool) (nodes:Int) (pulses:(Sl Pulse)) (zsI:Int) (zsJ:Bool) (zsK:Int) (zsL:Int) (zsM:Int) (zsN:Int) (zsO:Int) (zsP:Int) (zsQ:Int) (zqn:(Sl Tie)):Bool :=
  (cond zsJ
 true
 (zsU P1 nodes pulses zsI zsK zsL zsM zsN zsO zsP zsQ zqn))
theorem ziW (hX1:zCg K nodes pulses X1 P1 S1) (hs:zgo P1 nodes pulses zsI zsJ zsK zsL zsM zsN zsO zsP zsQ zqn=true) (hk:K (e40 (zgn S1 nodes pulses zsI zsJ zsK zsL zsM zsN zsO zsP zsQ zqn))) (zGr:zAb=zg zai zqn):z40 (Wk K) [1,1,1,0,1,0,0,1,1,0,0,1,0,1] [X1] ⟨[(4,zp 4 0),(6,zp 6 0),(8,zp 8 0),(16,zS zdD 7 pulses),(17,zI (pulses.len:Int)),(18,zI zsI),(60,zB zsJ)],[(4,.box 24 [zi (0:Int),.p (.nils)]),(6,.box 24 [zi nodes,.vec 91]),(8,.box 85 (zm (zdD (⟨zsK,zsL,zsM,zsN,(⟨zsO,zsP⟩:Span),zsQ⟩:Pulse)))),(91,.vec 40 4 32 zqn.len zAb)],[]⟩:=by subst zGr;exact zbm (by kernel_rfl) (zc hs hk (fun hs hk=>((wk hk (ze2 (.agg (ze2 (.rfl _) (ze2 (.nil _ _) zmh))) (ze2 (.one (.rfl _)) zmh))):Wk K [.agg [.int .i64 (0:Int),.nils],.one (.int .i64 (2:Int))])) (fun hs hk=>(zGn hX1 hs hk rfl)))
def ziX (nodes:Int) (pulses:(Sl Pulse)) (S1:Int→(Sl Tie)→(Net×Int)) (zau:Int) (zcU:(Sl Tie)):(Net×Int) :=
  (cond (decide (zau < (pulses.len : Int)))
 (cond ((pulses.get zau.toNat).A == (pulses.get zau.toNat).B)
 (zgn S1 nodes pulses zau true ((pulses.get zau.toNat).A) ((pulses.get zau.toNat).B) ((pulses.get zau.toNat).TimeA) ((pulses.get zau.toNat).TimeB) ((pulses.get zau.toNat).Flight.Low) ((pulses.get zau.toNat).Flight.High) ((pulses.get zau.toNat).Jitter) zcU)
 (cond (!(s81 ((pulses.get zau.toNat).TimeA) (-100000000:Int) (100000000:Int)))
 (zgn S1 nodes pulses zau true ((pulses.get zau.toNat).A) ((pulses.get zau.toNat).B) ((pulses.get zau.toNat).TimeA) ((pulses.get zau.toNat).TimeB) ((pulses.get zau.toNat).Flight.Low) ((pulses.get zau.toNat).Flight.High) ((pulses.get zau.toNat).Jitter) zcU)
 (cond (!(s81 ((pulses.get zau.toNat).TimeB) (-100000000:Int) (100000000:Int)))
 (zgn S1 nodes pulses zau true ((pulses.get zau.toNat).A) ((pulses.get zau.toNat).B) ((pulses.get zau.toNat).TimeA) ((pulses.get zau.toNat).TimeB) ((pulses.get zau.toNat).Flight.Low) ((pulses.get zau.toNat).Flight.High) ((pulses.get zau.toNat).Jitter) zcU)
 (cond (!(s81 ((pulses.get zau.toNat).Flight.Low) (0:Int) ((pulses.get zau.toNat).Flight.High)))
 (zgn S1 nodes pulses zau true ((pulses.get zau.toNat).A) ((pulses.get zau.toNat).B) ((pulses.get zau.toNat).TimeA) ((pulses.get zau.toNat).TimeB) ((pulses.get zau.toNat).Flight.Low) ((pulses.get zau.toNat).Flight.High) ((pulses.get zau.toNat).Jitter) zcU)
 (cond (decide ((pulses.get zau.toNat).Flight.High > (100000000:Int)))
 (zgn S1 nodes pulses zau true ((pulses.get zau.toNat).A) ((pulses.get zau.toNat).B) ((pulses.get zau.toNat).TimeA) ((pulses.get zau.toNat).TimeB) ((pulses.get zau.toNat).Flight.Low) ((pulses.get zau.toNat).Flight.High) ((pulses.get zau.toNat).Jitter) zcU)
 (zgn S1 nodes pulses zau (!(s81 ((pulses.get zau.toNat).Jitter) (0:Int) (100000000:Int))) ((pulses.get zau.toNat).A) ((pulses.get zau.toNat).B) ((pulses.get zau.toNat).TimeA) ((pulses.get zau.toNat).TimeB) ((pulses.get zau.toNat).Flight.Low) ((pulses.get zau.toNat).Flight.High) ((pulses.get zau.toNat).Jitter) zcU))))))
 (zov nodes (!(s67 (⟨nodes,zcU⟩:Net))) zcU))
def ziY (nodes:Int) (pulses:(Sl Pulse)) (P1:Int→(Sl Tie)→Bool) (zau:Int) (zcU:(Sl Tie)):Bool :=
  (cond (decide (zau < (pulses.len : Int)))
 (decide ((0≤zau∧zau < (pulses.len:Int))) &&
 (cond ((pulses.get zau.toNat).A == (pulses.get zau.toNat).B)
 (zgo P1 nodes pulses zau true ((pulses.get zau.toNat).A) ((pulses.get zau.toNat).B) ((pulses.get zau.toNat).TimeA) ((pulses.get zau.toNat).TimeB) ((pulses.get zau.toNat).Flight.Low) ((pulses.get zau.toNat).Flight.High) ((pulses.get zau.toNat).Jitter) zcU)
 (cond (!(s81 ((pulses.get zau.toNat).TimeA) (-100000000:Int) (100000000:Int)))
 (zgo P1 nodes pulses zau true ((pulses.get zau.toNat).A) ((pulses.get zau.toNat).B) ((pulses.get zau.toNat).TimeA) ((pulses.get zau.toNat).TimeB) ((pulses.get zau.toNat).Flight.Low) ((pulses.get zau.toNat).Flight.High) ((pulses.get zau.toNat).Jitter) zcU)
 (cond (!(s81 ((pulses.get zau.toNat).TimeB) (-100000000:Int) (100000000:Int)))
 (zgo P1 nodes pulses zau true ((pulses.get zau.toNat).A) ((pulses.get zau.toNat).B) ((pulses.get zau.toNat).TimeA) ((pulses.get zau.toNat).TimeB) ((pulses.get zau.toNat).Flight.Low) ((pulses.get zau.toNat).Flight.High) ((pulses.get zau.toNat).Jitter) zcU)
 (cond (!(s81 ((pulses.get zau.toNat).Flight.Low) (0:Int) ((pulses.get zau.toNat).Flight.High)))
 (zgo P1 nodes pulses zau true ((pulses.get zau.toNat).A) ((pulses.get zau.toNat).B) ((pulses.get zau.toNat).TimeA) ((pulses.get zau.toNat).TimeB) ((pulses.get zau.toNat).Flight.Low) ((pulses.get zau.toNat).Flight.High) ((pulses.get zau.toNat).Jitter) zcU)
 (cond (decide ((pulses.get zau.toNat).Flight.High > (100000000:Int)))
 (zgo P1 nodes pulses zau true ((pulses.get zau.toNat).A) ((pulses.get zau.toNat).B) ((pulses.get zau.toNat).TimeA) ((pulses.get zau.toNat).TimeB) ((pulses.get zau.toNat).Flight.Low) ((pulses.get zau.toNat).Flight.High) ((pulses.get zau.toNat).Jitter) zcU)
 (zgo P1 nodes pulses zau (!(s81 ((pulses.get zau.toNat).Jitter) (0:Int) (100000000:Int))) ((pulses.get zau.toNat).A) ((pulses.get zau.toNat).B) ((pulses.get zau.toNat).TimeA) ((pulses.get zau.toNat).TimeB) ((pulses.get zau.toNat).Flight.Low) ((pulses.get zau.toNat).Flight.High) ((pulses.get zau.toNat).Jitter) zcU)))))))
 (decide ((p67 (⟨nodes,zcU⟩:Net)=true)) &&
 true))
def zht (nodes:Int) (pulses:(Sl Pulse)):Nat→Int→(Sl Tie)→(Net×Int):=lpO (fun _ _=>default) (ziX nodes pulses)
def zhu (nodes:Int) (pulses:(Sl Pulse)):Nat→Int→(Sl Tie)→Bool:=lpO (fun _ _=>false) (ziY nodes pulses)
def zAe (nodes:Int) (pulses:(Sl Pulse)) (zau:Int) (zcU:(Sl Tie)):(Net×Int):=zht nodes pulses Fuel zau zcU
def zAf (nodes:Int) (pulses:(Sl Pulse)) (zau:Int) (zcU:(Sl Tie)):Bool:=zhu nodes pulses Fuel zau zcU
theorem zGs (hs:zAf nodes pulses zau zcU=true) (hk:K (e40 (zAe nodes pulses zau zcU))) (zsV:zgm=zg zai zcU):z40 (Wk K) [1,1,1,0,1,0] [] (zDn nodes pulses zau zcU zgm) :=
  zl (fun X=>z40 (Wk K) [1,1,1,0,1,0,0] [X]) (by kernel_rfl) fun X1 hX =>
  (show ∀ k, zCg K nodes pulses X1 (zhu nodes pulses k) (zht nodes pulses k) from zjK _ _ (ziY nodes pulses) (ziX nodes pulses) (zCg K nodes pulses X1)
 (by intro _ _ _ hs;exact absurd hs Bool.false_ne_true)
 (by intro P1 S1 hX1 zau zcU zgm hs hk zsV;subst zsV;exact hX _ (zbm (by kernel_rfl) (zc hs hk (fun hs hk=>(za4 hs fun hc hs=>And.intro hc (zc hs hk (fun hs hk=>(ziW hX1 hs hk rfl)) (fun hs hk=>(zc hs hk (fun hs hk=>(ziW hX1 hs hk rfl)) (fun hs hk=>(zc hs hk (fun hs hk=>(ziW hX1 hs hk rfl)) (fun hs hk=>(zc hs hk (fun hs hk=>(ziW hX1 hs hk rfl)) (fun hs hk=>(zc hs hk (fun hs hk=>(ziW hX1 hs hk rfl)) (fun hs hk=>(ziW hX1 hs hk rfl))))))))))))) (fun hs hk=>(za4 hs fun hc hs=>And.intro (And.intro (zE zai 4 zcU.get) hc) (zGp hk rfl))))))) _ hs hk zsV
def zow (nodes:Int) (pulses:(Sl Pulse)):(Net×Int) :=
  (zAe nodes pulses (0:Int) (⟨0,(fun _=>default)⟩:Sl Tie))
def zox (nodes:Int) (pulses:(Sl Pulse)):Bool :=
  (zAf nodes pulses (0:Int) (⟨0,(fun _=>default)⟩:Sl Tie))
theorem zGt (hs:zox nodes pulses=true) (hk:K (e40 (zow nodes pulses))):z40 (Wk K) [1,1] [] ⟨[(0,zI nodes),(1,zS zdD 7 pulses),(4,zp 4 0)],[(4,.box 24 [zi (0:Int),.p (.nils)])],[]⟩:=zbm (by kernel_rfl) (zGs hs hk rfl)
def s40 (nodes:Int) (pulses:(Sl Pulse)):(Net×Int) :=
  (cond (decide ((pulses.len : Int) > (200:Int)))
 ((⟨(0:Int),(⟨0,fun _=>default⟩:(Sl Tie))⟩:Net),(3:Int))
 (zow nodes pulses))
def p40 (nodes:Int) (pulses:(Sl Pulse)):Bool :=
  (cond (decide ((pulses.len : Int) > (200:Int)))
 true
 (zox nodes pulses))
end
theorem q40 (nodes:Int) (pulses:(Sl Pulse)) (K:List PA→Prop) (hs:p40 nodes pulses=true) (hk:K (e40 (s40 nodes pulses))):vcFun Tryd.prog G40 zGm 40 [.one (.int .i64 nodes),.one (.sl pulses.len 7 (fun i=>zdD (pulses.get i)))] (Wk K) :=
  zbm (by kernel_rfl) (zc hs hk (fun hs hk=>((wk hk (ze2 (.agg (ze2 (.rfl _) (ze2 (.nil _ _) zmh))) (ze2 (.one (.rfl _)) zmh))):Wk K [.agg [.int .i64 (0:Int),.nils],.one (.int .i64 (3:Int))])) (fun hs hk=>(zGt hs hk)))
def zGu : List PA → COut
  | [.one (.int .i64 a0),.one (.sl zc1 zfK zcZ)]=>.det (IsE zdD 7 zfK zcZ∧p40 a0 (⟨zc1,ziy zcZ⟩:(Sl Pulse))=true) [.agg [.int .i64 (((s40 a0 (⟨zc1,ziy zcZ⟩:(Sl Pulse))).1).Nodes),.sl (((s40 a0 (⟨zc1,ziy zcZ⟩:(Sl Pulse))).1).Ties.len) 4 (fun i=>zai (((s40 a0 (⟨zc1,ziy zcZ⟩:(Sl Pulse))).1).Ties.get i))],.one (.int .i64 ((s40 a0 (⟨zc1,ziy zcZ⟩:(Sl Pulse))).2))]
  | _=>.no
theorem zJC:zay Tryd.prog 40:=⟨_,rfl,rfl,by kernel_rfl⟩
theorem zMX:Ok Tryd.prog 40 zGu:=zhc zLt zJC fun args K h=>by
  unfold zGu at h
  split at h
  · rename_i a0 zc1 zfK zcZ
    obtain ⟨⟨⟨rfl,zd5,rfl⟩,hs⟩,hk⟩:=h
    try rw [zk4 zd5] at hs
    try rw [zk4 zd5] at hk
    exact ⟨_,zfy zfW _,(fun _ _=>[]),(fun _=>false),zGm,q40 a0 (⟨zc1,zd5⟩:(Sl Pulse)) K hs hk⟩
  · exact h.elim
abbrev T39:Tabs:=Tabs.nil
theorem zLu:TabsOk Tryd.prog T39:=TabsOk.nil
abbrev G39:Ctrs:=csm T39 (fun _ _=>[]) (fun _=>false)
def zJD:Ann:=⟨37,[(0,zK [1,2] [2]),(1,zK [2,5] [2]),(2,zK [4] [])],
 [],
 [],
 [],[]⟩
abbrev R39:=Bool
abbrev e39 (r:R39):List PA:=[.one (.bool r)]
section
variable {K:List PA→Prop} {t:Tie} {values:(Sl Int)}
def s39 (t:Tie) (values:(Sl Int)):Bool :=
  (cond (t.Low == (-1000000000000:Int))
 (cond (t.High == (1000000000000:Int))
 true
 (decide ((w64 ((values.get t.To.toNat) - (values.get t.From.toNat)))≤t.High)))
 (cond (decide ((w64 ((values.get t.To.toNat) - (values.get t.From.toNat))) ≥ t.Low))
 (cond (t.High == (1000000000000:Int))
 true
 (decide ((w64 ((values.get t.To.toNat) - (values.get t.From.toNat)))≤t.High)))
 false))
def p39 (t:Tie) (values:(Sl Int)):Bool :=
  (decide ((0≤t.To∧t.To < (values.len:Int))) &&
 (decide ((0≤t.From∧t.From < (values.len:Int))) &&
 true))
end
theorem q39 (t:Tie) (values:(Sl Int)) (K:List PA→Prop) (hs:p39 t values=true) (hk:K (e39 (s39 t values))):vcFun Tryd.prog G39 zJD 39 [.agg (zai t),.one (.sl values.len 1 (fun i=>enc_3 (values.get i)))] K :=
  zbm (by kernel_rfl) (za4 hs fun hc hs=>And.intro hc (za4 hs fun hc hs=>And.intro hc (zt hk (fun hk=>(zt hk (fun hk=>hk) (fun hk=>hk))) (fun hk=>(zt hk (fun hk=>(zt hk (fun hk=>hk) (fun hk=>hk))) (fun hk=>hk))))))
def zGv : List PA → COut
  | [.agg [.int .i64 zfZ,.int .i64 zpG,.int .i64 zjt,.int .i64 zf0],.one (.sl zc1 zfK zcZ)]=>.det (IsE enc_3 1 zfK zcZ∧p39 (⟨zfZ,zpG,zjt,zf0⟩:Tie) (⟨zc1,zax zcZ⟩:(Sl Int))=true) [.one (.bool (s39 (⟨zfZ,zpG,zjt,zf0⟩:Tie) (⟨zc1,zax zcZ⟩:(Sl Int))))]
  | _=>.no
theorem zJE:zay Tryd.prog 39:=⟨_,rfl,rfl,by kernel_rfl⟩
theorem zMY:Ok Tryd.prog 39 zGv:=zbY zLu zJE fun args K h=>by
  unfold zGv at h
  split at h
  · rename_i zfZ zpG zjt zf0 zc1 zfK zcZ
    obtain ⟨⟨⟨rfl,zd5,rfl⟩,hs⟩,hk⟩:=h
    try rw [zbe zd5] at hs
    try rw [zbe zd5] at hk
    exact ⟨(fun _ _=>[]),(fun _=>false),zJD,q39 (⟨zfZ,zpG,zjt,zf0⟩:Tie) (⟨zc1,zd5⟩:(Sl Int)) K hs hk⟩
  · exact h.elim
abbrev T72:Tabs:=Tabs.nil
theorem zLv:TabsOk Tryd.prog T72:=TabsOk.nil
abbrev G72:Ctrs:=csm T72 (fun _ _=>[]) (fun _=>false)
def zJF:Ann:=⟨15,[(0,zK [0,1,2] []),(1,zK [6] [])],
 [],
 [],
 [],[]⟩
abbrev R72:=Bool
abbrev e72 (r:R72):List PA:=[.one (.bool r)]
section
variable {K:List PA→Prop} {x:Int} {low:Int} {high:Int}
def s72 (x:Int) (low:Int) (high:Int):Bool :=
  (cond (decide (x ≥ low))
 (decide (x≤high))
 false)
end
theorem q72 (x:Int) (low:Int) (high:Int) (K:List PA→Prop) (hk:K (e72 (s72 x low high))):vcFun Tryd.prog G72 zJF 72 [.one (.int .i64 x),.one (.int .i64 low),.one (.int .i64 high)] K :=
  zbm (by kernel_rfl) (zt hk (fun hk=>hk) (fun hk=>hk))
def zCi : List PA → COut
  | [.one (.int .i64 a0),.one (.int .i64 a1),.one (.int .i64 a2)]=>.tot [.one (.bool (s72 a0 a1 a2))]
  | _=>.no
theorem zJG:zay Tryd.prog 72:=⟨_,rfl,rfl,by kernel_rfl⟩
theorem zMZ:Ok Tryd.prog 72 zCi:=zbY zLv zJG fun args K h=>by
  unfold zCi at h
  split at h
  · rename_i a0 a1 a2
    have hk:=h
    exact ⟨(fun _ _=>[]),(fun _=>false),zJF,q72 a0 a1 a2 K hk⟩
  · exact h.elim
abbrev T80:Tabs:=(Tabs.nil.addF 72 zCi)
theorem zLw:TabsOk Tryd.prog T80:=(TabsOk.nil.addF zMZ)
abbrev G80:Ctrs:=csm T80 (fun _ _=>[]) (fun _=>false)
def zGw:Ann:=⟨29,[(0,zK [1,2] [2]),(1,zK [1,16] []),(2,zK [4] []),(3,zK [1,5] []),(4,zK [1,5,20] []),(5,zK [1,5] []),(6,zK [1,5,28] []),(7,zK [4] []),(8,zK [4] [])],
 [(4,zK [1,5] [])],
 [(3,zK [1] []),(7,zK [1,5,28] [])],
 [],[]⟩
abbrev R80:=Bool
abbrev e80 (r:R80):List PA:=[.one (.bool r)]
@[irreducible] def z80:=ptF Tryd.prog G80 zGw Tryd.f80
def zDo (values:(Sl Int)) (iv1:Int):St:=⟨[(1,zS enc_3 1 values),(5,zI iv1)],[],[]⟩
abbrev zGx (K:List PA→Prop) (values:(Sl Int)) (X:St→Prop) (P:Int→Bool) (S:Int→Bool):Prop:=∀ ⦃iv1:Int⦄,P iv1=true→K (e80 (S iv1))→X (zDo values iv1)
section
variable {K:List PA→Prop} {n:Net} {values:(Sl Int)} {iv1:Int} {X1:St→Prop} {P1:Int→Bool} {S1:Int→Bool} {iv2:Int} {zc4:Bool}
def zsW (S1:Int→Bool) (values:(Sl Int)) (iv2:Int) (zc4:Bool):Bool :=
  (cond zc4
 false
 (S1 (w64 (iv2+(1:Int)))))
def zsX (P1:Int→Bool) (values:(Sl Int)) (iv2:Int) (zc4:Bool):Bool :=
  (cond zc4
 true
 (P1 (w64 (iv2+(1:Int)))))
theorem zGy (hX1:zGx K values X1 P1 S1) (hs:zsX P1 values iv2 zc4=true) (hk:K (e80 (zsW S1 values iv2 zc4))):z80 K [1,1,0,1,0,0,1,0,0,1] [X1] ⟨[(1,zS enc_3 1 values),(5,zI iv2),(28,zB zc4)],[],[]⟩:=zbm (by kernel_rfl) (zc hs hk (fun hs hk=>hk) (fun hs hk=>(hX1 hs hk)))
def ziZ (values:(Sl Int)) (S1:Int→Bool) (iv1:Int):Bool :=
  (cond (decide (iv1 < (values.len : Int)))
 (zsW S1 values iv1 (!(s72 (values.get iv1.toNat) (-1000000000000:Int) (1000000000000:Int))))
 true)
def zi0 (values:(Sl Int)) (P1:Int→Bool) (iv1:Int):Bool :=
  (cond (decide (iv1 < (values.len : Int)))
 (decide ((0≤iv1∧iv1 < (values.len:Int))) &&
 (zsX P1 values iv1 (!(s72 (values.get iv1.toNat) (-1000000000000:Int) (1000000000000:Int)))))
 true)
def zhv (values:(Sl Int)):Nat→Int→Bool:=lpO (fun _=>default) (ziZ values)
def zi1 (values:(Sl Int)):Nat→Int→Bool:=lpO (fun _=>false) (zi0 values)
def zsY (values:(Sl Int)) (iv1:Int):Bool:=zhv values Fuel iv1
def zsZ (values:(Sl Int)) (iv1:Int):Bool:=zi1 values Fuel iv1
theorem zGz (hs:zsZ values iv1=true) (hk:K (e80 (zsY values iv1))):z80 K [1,1,0,1,0] [] (zDo values iv1) :=
  zl (fun X=>z80 K [1,1,0,1,0,0] [X]) (by kernel_rfl) fun X1 hX =>
  (show ∀ k, zGx K values X1 (zi1 values k) (zhv values k) from zjK _ _ (zi0 values) (ziZ values) (zGx K values X1)
 (by intro _ hs;exact absurd hs Bool.false_ne_true)
 (by intro P1 S1 hX1 iv1 hs hk;exact hX _ (zbm (by kernel_rfl) (zc hs hk (fun hs hk=>(za4 hs fun hc hs=>And.intro hc (zGy hX1 hs hk))) (fun hs hk=>hk))))) _ hs hk
def zs3 (values:(Sl Int)):Bool :=
  (zsY values (0:Int))
def zs4 (values:(Sl Int)):Bool :=
  (zsZ values (0:Int))
theorem zGA (hs:zs4 values=true) (hk:K (e80 (zs3 values))):z80 K [1,1] [] ⟨[(1,zS enc_3 1 values)],[],[]⟩:=zbm (by kernel_rfl) (zGz hs hk)
def s80 (n:Net) (values:(Sl Int)):Bool :=
  (cond ((values.len : Int) != n.Nodes)
 false
 (cond ((values.get 0) != (0:Int))
 false
 (zs3 values)))
def p80 (n:Net) (values:(Sl Int)):Bool :=
  (cond ((values.len : Int) != n.Nodes)
 true
 (decide ((0≤(0:Int)∧(0:Int) < (values.len:Int))) &&
 (cond ((values.get 0) != (0:Int))
 true
 (zs4 values))))
end
theorem q80 (n:Net) (values:(Sl Int)) (K:List PA→Prop) (hs:p80 n values=true) (hk:K (e80 (s80 n values))):vcFun Tryd.prog G80 zGw 80 [.agg (zb5 n),.one (.sl values.len 1 (fun i=>enc_3 (values.get i)))] K :=
  zbm (by kernel_rfl) (zc hs hk (fun hs hk=>hk) (fun hs hk=>(za4 hs fun hc hs=>And.intro hc (zc hs hk (fun hs hk=>hk) (fun hs hk=>(zGA hs hk))))))
def zGB : List PA → COut
  | [.agg [.int .i64 zan,.sl zaj zaR zah],.one (.sl zc1 zfK zcZ)]=>.det (IsE zai 4 zaR zah∧IsE enc_3 1 zfK zcZ∧p80 (⟨zan,(⟨zaj,zat zah⟩:(Sl Tie))⟩:Net) (⟨zc1,zax zcZ⟩:(Sl Int))=true) [.one (.bool (s80 (⟨zan,(⟨zaj,zat zah⟩:(Sl Tie))⟩:Net) (⟨zc1,zax zcZ⟩:(Sl Int))))]
  | _=>.no
theorem zJH:zay Tryd.prog 80:=⟨_,rfl,rfl,by kernel_rfl⟩
theorem zM0:Ok Tryd.prog 80 zGB:=zbY zLw zJH fun args K h=>by
  unfold zGB at h
  split at h
  · rename_i zan zaj zaR zah zc1 zfK zcZ
    obtain ⟨⟨⟨rfl,zaH,rfl⟩,⟨rfl,zd5,rfl⟩,hs⟩,hk⟩:=h
    try rw [zav zaH] at hs
    try rw [zav zaH] at hk
    try rw [zbe zd5] at hs
    try rw [zbe zd5] at hk
    exact ⟨(fun _ _=>[]),(fun _=>false),zGw,q80 (⟨zan,(⟨zaj,zaH⟩:(Sl Tie))⟩:Net) (⟨zc1,zd5⟩:(Sl Int)) K hs hk⟩
  · exact h.elim
abbrev T38:Tabs:=((Tabs.nil.addF 39 zGv).addF 80 zGB)
theorem zLx:TabsOk Tryd.prog T38:=((TabsOk.nil.addF zMY).addF zM0)
abbrev G38:Ctrs:=csm T38 (fun _ _=>[]) (fun _=>false)
def zGC:Ann:=⟨25,[(0,zK [1,2] [2]),(1,zK [1,2,9] [2]),(2,zK [4] []),(3,zK [1,2,5] [2]),(4,zK [1,2,5,14] [2]),(5,zK [1,2,5] [2]),(6,zK [1,2,5,24] [2]),(7,zK [4] []),(8,zK [4] [])],
 [(4,zK [1,2,5] [2])],
 [(2,zK [1,2,9] [2]),(3,zK [1,2] [2]),(7,zK [1,2,5,24] [2])],
 [],[]⟩
abbrev R38:=Bool
abbrev e38 (r:R38):List PA:=[.one (.bool r)]
@[irreducible] def z38:=ptF Tryd.prog G38 zGC Tryd.f38
def zDp (n:Net) (values:(Sl Int)) (iv2:Int):St:=⟨[(1,zS enc_3 1 values),(2,zp 2 0),(5,zI iv2)],[(2,.box 24 (zm (zb5 n)))],[]⟩
abbrev zGD (K:List PA→Prop) (n:Net) (values:(Sl Int)) (X:St→Prop) (P:Int→Bool) (S:Int→Bool):Prop:=∀ ⦃iv2:Int⦄,P iv2=true→K (e38 (S iv2))→X (zDp n values iv2)
section
variable {K:List PA→Prop} {n:Net} {values:(Sl Int)} {zhr:Bool} {iv2:Int} {X2:St→Prop} {P2:Int→Bool} {S2:Int→Bool} {iv3:Int} {zs5:Bool}
def zs6 (S2:Int→Bool) (n:Net) (values:(Sl Int)) (iv3:Int) (zs5:Bool):Bool :=
  (cond zs5
 false
 (S2 (w64 (iv3+(1:Int)))))
def zs7 (P2:Int→Bool) (n:Net) (values:(Sl Int)) (iv3:Int) (zs5:Bool):Bool :=
  (cond zs5
 true
 (P2 (w64 (iv3+(1:Int)))))
theorem zGE (hX2:zGD K n values X2 P2 S2) (hs:zs7 P2 n values iv3 zs5=true) (hk:K (e38 (zs6 S2 n values iv3 zs5))):z38 K [1,1,0,1,0,0,1,0,0,1] [X2] ⟨[(1,zS enc_3 1 values),(2,zp 2 0),(5,zI iv3),(24,zB zs5)],[(2,.box 24 (zm (zb5 n)))],[]⟩:=zbm (by kernel_rfl) (zc hs hk (fun hs hk=>hk) (fun hs hk=>(hX2 hs hk)))
def zi2 (n:Net) (values:(Sl Int)) (S2:Int→Bool) (iv2:Int):Bool :=
  (cond (decide (iv2 < (n.Ties.len : Int)))
 (zs6 S2 n values iv2 (!(s39 (n.Ties.get iv2.toNat) values)))
 true)
def zi3 (n:Net) (values:(Sl Int)) (P2:Int→Bool) (iv2:Int):Bool :=
  (cond (decide (iv2 < (n.Ties.len : Int)))
 (decide ((0≤iv2∧iv2 < (n.Ties.len:Int))) &&
 (decide ((p39 (n.Ties.get iv2.toNat) values=true)) &&
 (zs7 P2 n values iv2 (!(s39 (n.Ties.get iv2.toNat) values)))))
 true)
def zi4 (n:Net) (values:(Sl Int)):Nat→Int→Bool:=lpO (fun _=>default) (zi2 n values)
def zi5 (n:Net) (values:(Sl Int)):Nat→Int→Bool:=lpO (fun _=>false) (zi3 n values)
def zs8 (n:Net) (values:(Sl Int)) (iv2:Int):Bool:=zi4 n values Fuel iv2
def zs9 (n:Net) (values:(Sl Int)) (iv2:Int):Bool:=zi5 n values Fuel iv2
theorem zGF (hs:zs9 n values iv2=true) (hk:K (e38 (zs8 n values iv2))):z38 K [1,1,0,1,0] [] (zDp n values iv2) :=
  zl (fun X=>z38 K [1,1,0,1,0,0] [X]) (by kernel_rfl) fun X2 hX =>
  (show ∀ k, zGD K n values X2 (zi5 n values k) (zi4 n values k) from zjK _ _ (zi3 n values) (zi2 n values) (zGD K n values X2)
 (by intro _ hs;exact absurd hs Bool.false_ne_true)
 (by intro P2 S2 hX2 iv2 hs hk;exact hX _ (zbm (by kernel_rfl) (zc hs hk (fun hs hk=>(za4 hs fun hc hs=>And.intro hc (za4 hs fun hc hs=>And.intro (And.intro (zE enc_3 1 values.get) hc) (zGE hX2 hs hk)))) (fun hs hk=>hk))))) _ hs hk
def zta (n:Net) (values:(Sl Int)):Bool :=
  (zs8 n values (0:Int))
def ztb (n:Net) (values:(Sl Int)):Bool :=
  (zs9 n values (0:Int))
theorem zGG (hs:ztb n values=true) (hk:K (e38 (zta n values))):z38 K [1,1] [] ⟨[(1,zS enc_3 1 values),(2,zp 2 0)],[(2,.box 24 (zm (zb5 n)))],[]⟩:=zbm (by kernel_rfl) (zGF hs hk)
def ztc (n:Net) (values:(Sl Int)) (zhr:Bool):Bool :=
  (cond zhr
 false
 (zta n values))
def ztd (n:Net) (values:(Sl Int)) (zhr:Bool):Bool :=
  (cond zhr
 true
 (ztb n values))
theorem zGH (hs:ztd n values zhr=true) (hk:K (e38 (ztc n values zhr))):z38 K [1,0,1] [] ⟨[(1,zS enc_3 1 values),(2,zp 2 0),(9,zB zhr)],[(2,.box 24 (zm (zb5 n)))],[]⟩:=zbm (by kernel_rfl) (zc hs hk (fun hs hk=>hk) (fun hs hk=>(zGG hs hk)))
def s38 (n:Net) (values:(Sl Int)):Bool :=
  (ztc n values (!(s80 n values)))
def p38 (n:Net) (values:(Sl Int)):Bool :=
  (decide ((p80 n values=true)) &&
 (ztd n values (!(s80 n values))))
end
theorem q38 (n:Net) (values:(Sl Int)) (K:List PA→Prop) (hs:p38 n values=true) (hk:K (e38 (s38 n values))):vcFun Tryd.prog G38 zGC 38 [.agg (zb5 n),.one (.sl values.len 1 (fun i=>enc_3 (values.get i)))] K :=
  zbm (by kernel_rfl) (za4 hs fun hc hs=>And.intro (And.intro (zE zai 4 n.Ties.get) (And.intro (zE enc_3 1 values.get) hc)) (zGH hs hk))
def zGI : List PA → COut
  | [.agg [.int .i64 zan,.sl zaj zaR zah],.one (.sl zc1 zfK zcZ)]=>.det (IsE zai 4 zaR zah∧IsE enc_3 1 zfK zcZ∧p38 (⟨zan,(⟨zaj,zat zah⟩:(Sl Tie))⟩:Net) (⟨zc1,zax zcZ⟩:(Sl Int))=true) [.one (.bool (s38 (⟨zan,(⟨zaj,zat zah⟩:(Sl Tie))⟩:Net) (⟨zc1,zax zcZ⟩:(Sl Int))))]
  | _=>.no
theorem zJI:zay Tryd.prog 38:=⟨_,rfl,rfl,by kernel_rfl⟩
theorem zM1:Ok Tryd.prog 38 zGI:=zbY zLx zJI fun args K h=>by
  unfold zGI at h
  split at h
  · rename_i zan zaj zaR zah zc1 zfK zcZ
    obtain ⟨⟨⟨rfl,zaH,rfl⟩,⟨rfl,zd5,rfl⟩,hs⟩,hk⟩:=h
    try rw [zav zaH] at hs
    try rw [zav zaH] at hk
    try rw [zbe zd5] at hs
    try rw [zbe zd5] at hk
    exact ⟨(fun _ _=>[]),(fun _=>false),zGC,q38 (⟨zan,(⟨zaj,zaH⟩:(Sl Tie))⟩:Net) (⟨zc1,zd5⟩:(Sl Int)) K hs hk⟩
  · exact h.elim
abbrev T48:Tabs:=((Tabs.nil.addF 67 zrk).addF 81 zrh)
theorem zLy:TabsOk Tryd.prog T48:=((TabsOk.nil.addF zIn).addF zIk)
abbrev G48:Ctrs:=csm T48 (fun _ _=>[]) (fun _=>false)
def zGJ:Ann:=⟨75,[(0,zK [1,2] [2]),(1,zK [1,2,25] [2]),(2,zK [4] []),(3,zK [1,2,26,27,28] [2]),(4,zK [1,2,26,27,28,29] [2]),(5,zK [1,2,6,26,27,28] [2]),(6,zK [1,2,26,27,28,34] [2]),(7,zK [4] []),(8,zK [1,2,26,27,28] [2]),(9,zK [1,37,38,39] []),(10,zK [1,37,38,39,40] []),(11,zK [1,8,37,38,39] [8]),(12,zK [1,8,9,37,38,39] [8]),(13,zK [1,37,38,39,73] []),(14,zK [4] []),(15,zK [1,37,38,39] []),(16,zK [4] [])],
 [(4,zK [1,2,26,27,28] [2]),(10,zK [1,37,38,39] [])],
 [(2,zK [1,2,25] [2]),(3,zK [1,2] [2]),(7,zK [1,2,26,27,28,34] [2]),(9,zK [1,2] [2])],
 [],[]⟩
abbrev R48:=Bool
abbrev e48 (r:R48):List PA:=[.one (.bool r)]
@[irreducible] def z48:=ptF Tryd.prog G48 zGJ Tryd.f48
def zDq (n:Net) (values:(Sl Int)) (zc4:Int):St:=⟨[(1,zS enc_3 1 values),(2,zp 2 0),(26,zS enc_3 1 values),(27,zI (values.len:Int)),(28,zI zc4)],[(2,.box 24 (zm (zb5 n)))],[]⟩
abbrev zGK (K:List PA→Prop) (n:Net) (values:(Sl Int)) (X:St→Prop) (P:Int→Bool) (S:Int→Bool):Prop:=∀ ⦃zc4:Int⦄,P zc4=true→K (e48 (S zc4))→X (zDq n values zc4)
def zDr (n:Net) (values:(Sl Int)) (zbO:Int):St:=⟨[(1,zS enc_3 1 values),(37,zS zai 4 n.Ties),(38,zI (n.Ties.len:Int)),(39,zI zbO)],[],[]⟩
abbrev zJJ (K:List PA→Prop) (n:Net) (values:(Sl Int)) (X:St→Prop) (P:Int→Bool) (S:Int→Bool):Prop:=∀ ⦃zbO:Int⦄,P zbO=true→K (e48 (S zbO))→X (zDr n values zbO)
section
variable {K:List PA→Prop} {n:Net} {values:(Sl Int)} {zte:Bool} {zc4:Int} {X2:St→Prop} {P2:Int→Bool} {S2:Int→Bool} {ztf:Int} {ztg:Bool} {zbO:Int} {X5:St→Prop} {P5:Int→Bool} {S5:Int→Bool}
def zi6 (n:Net) (values:(Sl Int)) (S5:Int→Bool) (zbO:Int):Bool :=
  (cond (decide (zbO < (n.Ties.len : Int)))
 (cond ((n.Ties.get zbO.toNat).Low != (-1000000000000:Int))
 (cond (decide ((w64 ((values.get (((n.Ties.get zbO.toNat).To).toNat)) - (values.get (((n.Ties.get zbO.toNat).From).toNat)))) < (n.Ties.get zbO.toNat).Low))
 false
 (cond ((n.Ties.get zbO.toNat).High != (1000000000000:Int))
 (cond (decide ((w64 ((values.get (((n.Ties.get zbO.toNat).To).toNat)) - (values.get (((n.Ties.get zbO.toNat).From).toNat)))) > (n.Ties.get zbO.toNat).High))
 false
 (S5 (w64 (zbO+(1:Int)))))
 (S5 (w64 (zbO+(1:Int))))))
 (cond ((n.Ties.get zbO.toNat).High != (1000000000000:Int))
 (cond (decide ((w64 ((values.get (((n.Ties.get zbO.toNat).To).toNat)) - (values.get (((n.Ties.get zbO.toNat).From).toNat)))) > (n.Ties.get zbO.toNat).High))
 false
 (S5 (w64 (zbO+(1:Int)))))
 (S5 (w64 (zbO+(1:Int))))))
 true)
def zi7 (n:Net) (values:(Sl Int)) (P5:Int→Bool) (zbO:Int):Bool :=
  (cond (decide (zbO < (n.Ties.len : Int)))
 (decide ((0≤zbO∧zbO < (n.Ties.len:Int))) &&
 (decide ((0≤(n.Ties.get zbO.toNat).To∧(n.Ties.get zbO.toNat).To < (values.len:Int))) &&
 (decide ((0≤(n.Ties.get zbO.toNat).From∧(n.Ties.get zbO.toNat).From < (values.len:Int))) &&
 (cond ((n.Ties.get zbO.toNat).Low != (-1000000000000:Int))
 (cond (decide ((w64 ((values.get (((n.Ties.get zbO.toNat).To).toNat)) - (values.get (((n.Ties.get zbO.toNat).From).toNat)))) < (n.Ties.get zbO.toNat).Low))
 true
 (cond ((n.Ties.get zbO.toNat).High != (1000000000000:Int))
 (cond (decide ((w64 ((values.get (((n.Ties.get zbO.toNat).To).toNat)) - (values.get (((n.Ties.get zbO.toNat).From).toNat)))) > (n.Ties.get zbO.toNat).High))
 true
 (P5 (w64 (zbO+(1:Int)))))
 (P5 (w64 (zbO+(1:Int))))))
 (cond ((n.Ties.get zbO.toNat).High != (1000000000000:Int))
 (cond (decide ((w64 ((values.get (((n.Ties.get zbO.toNat).To).toNat)) - (values.get (((n.Ties.get zbO.toNat).From).toNat)))) > (n.Ties.get zbO.toNat).High))
 true
 (P5 (w64 (zbO+(1:Int)))))
 (P5 (w64 (zbO+(1:Int)))))))))
 true)
def zi8 (n:Net) (values:(Sl Int)):Nat→Int→Bool:=lpO (fun _=>default) (zi6 n values)
def zi9 (n:Net) (values:(Sl Int)):Nat→Int→Bool:=lpO (fun _=>false) (zi7 n values)
def zAg (n:Net) (values:(Sl Int)) (zbO:Int):Bool:=zi8 n values Fuel zbO
def zAh (n:Net) (values:(Sl Int)) (zbO:Int):Bool:=zi9 n values Fuel zbO
theorem zGL (hs:zAh n values zbO=true) (hk:K (e48 (zAg n values zbO))):z48 K [1,1,1,0,1,0] [] (zDr n values zbO) :=
  zl (fun X=>z48 K [1,1,1,0,1,0,0] [X]) (by kernel_rfl) fun X5 hX =>
  (show ∀ k, zJJ K n values X5 (zi9 n values k) (zi8 n values k) from zjK _ _ (zi7 n values) (zi6 n values) (zJJ K n values X5)
 (by intro _ hs;exact absurd hs Bool.false_ne_true)
 (by intro P5 S5 hX5 zbO hs hk;exact hX _ (zbm (by kernel_rfl) (zc hs hk (fun hs hk=>(za4 hs fun hc hs=>And.intro hc (za4 hs fun hc hs=>And.intro hc (za4 hs fun hc hs=>And.intro hc (zc hs hk (fun hs hk=>(zc hs hk (fun hs hk=>hk) (fun hs hk=>(zc hs hk (fun hs hk=>(zc hs hk (fun hs hk=>hk) (fun hs hk=>(hX5 hs hk)))) (fun hs hk=>(hX5 hs hk)))))) (fun hs hk=>(zc hs hk (fun hs hk=>(zc hs hk (fun hs hk=>hk) (fun hs hk=>(hX5 hs hk)))) (fun hs hk=>(hX5 hs hk))))))))) (fun hs hk=>hk))))) _ hs hk
def zl5 (n:Net) (values:(Sl Int)):Bool :=
  (zAg n values (0:Int))
def zoy (n:Net) (values:(Sl Int)):Bool :=
  (zAh n values (0:Int))
theorem zGM (hs:zoy n values=true) (hk:K (e48 (zl5 n values))):z48 K [1,1,1] [] ⟨[(1,zS enc_3 1 values),(2,zp 2 0)],[(2,.box 24 (zm (zb5 n)))],[]⟩:=zbm (by kernel_rfl) (zGL hs hk)
def zoz (S2:Int→Bool) (n:Net) (values:(Sl Int)) (ztf:Int) (ztg:Bool):Bool :=
  (cond ztg
 false
 (S2 (w64 (ztf+(1:Int)))))
def zoA (P2:Int→Bool) (n:Net) (values:(Sl Int)) (ztf:Int) (ztg:Bool):Bool :=
  (cond ztg
 true
 (P2 (w64 (ztf+(1:Int)))))
theorem zGN (hX2:zGK K n values X2 P2 S2) (hs:zoA P2 n values ztf ztg=true) (hk:K (e48 (zoz S2 n values ztf ztg))):z48 K [1,1,0,1,0,0,1,1,0,0,1,1] [X2] ⟨[(1,zS enc_3 1 values),(2,zp 2 0),(26,zS enc_3 1 values),(27,zI (values.len:Int)),(28,zI ztf),(34,zB ztg)],[(2,.box 24 (zm (zb5 n)))],[]⟩:=zbm (by kernel_rfl) (zc hs hk (fun hs hk=>hk) (fun hs hk=>(hX2 hs hk)))
def zeJ (n:Net) (values:(Sl Int)) (S2:Int→Bool) (zc4:Int):Bool :=
  (cond (decide (zc4 < (values.len : Int)))
 (zoz S2 n values zc4 (!(s81 (values.get zc4.toNat) (-1000000000000:Int) (1000000000000:Int))))
 (zl5 n values))
def zeK (n:Net) (values:(Sl Int)) (P2:Int→Bool) (zc4:Int):Bool :=
  (cond (decide (zc4 < (values.len : Int)))
 (decide ((0≤zc4∧zc4 < (values.len:Int))) &&
 (zoA P2 n values zc4 (!(s81 (values.get zc4.toNat) (-1000000000000:Int) (1000000000000:Int)))))
 (zoy n values))
def zeL (n:Net) (values:(Sl Int)):Nat→Int→Bool:=lpO (fun _=>default) (zeJ n values)
def zeM (n:Net) (values:(Sl Int)):Nat→Int→Bool:=lpO (fun _=>false) (zeK n values)
def zoB (n:Net) (values:(Sl Int)) (zc4:Int):Bool:=zeL n values Fuel zc4
def zoC (n:Net) (values:(Sl Int)) (zc4:Int):Bool:=zeM n values Fuel zc4
theorem zGO (hs:zoC n values zc4=true) (hk:K (e48 (zoB n values zc4))):z48 K [1,1,0,1,0] [] (zDq n values zc4) :=
  zl (fun X=>z48 K [1,1,0,1,0,0] [X]) (by kernel_rfl) fun X2 hX =>
  (show ∀ k, zGK K n values X2 (zeM n values k) (zeL n values k) from zjK _ _ (zeK n values) (zeJ n values) (zGK K n values X2)
 (by intro _ hs;exact absurd hs Bool.false_ne_true)
 (by intro P2 S2 hX2 zc4 hs hk;exact hX _ (zbm (by kernel_rfl) (zc hs hk (fun hs hk=>(za4 hs fun hc hs=>And.intro hc (zGN hX2 hs hk))) (fun hs hk=>(zGM hs hk)))))) _ hs hk
def zoD (n:Net) (values:(Sl Int)):Bool :=
  (zoB n values (0:Int))
def zoE (n:Net) (values:(Sl Int)):Bool :=
  (zoC n values (0:Int))
theorem zGP (hs:zoE n values=true) (hk:K (e48 (zoD n values))):z48 K [1,1] [] ⟨[(1,zS enc_3 1 values),(2,zp 2 0)],[(2,.box 24 (zm (zb5 n)))],[]⟩:=zbm (by kernel_rfl) (zGO hs hk)
def zja (n:Net) (values:(Sl Int)) (zte:Bool):Bool :=
  (cond zte
 false
 (zoD n values))
def zjb (n:Net) (values:(Sl Int)) (zte:Bool):Bool :=
  (cond zte
 true
 (zoE n values))
theorem zth (hs:zjb n values zte=true) (hk:K (e48 (zja n values zte))):z48 K [1,0,1] [] ⟨[(1,zS enc_3 1 values),(2,zp 2 0),(25,zB zte)],[(2,.box 24 (zm (zb5 n)))],[]⟩:=zbm (by kernel_rfl) (zc hs hk (fun hs hk=>hk) (fun hs hk=>(zGP hs hk)))
def s48 (n:Net) (values:(Sl Int)):Bool :=
  (cond (!(s67 n))
 (zja n values true)
 (cond ((values.len : Int) != n.Nodes)
 (zja n values true)
 (zja n values ((values.get 0) != (0:Int)))))
def p48 (n:Net) (values:(Sl Int)):Bool :=
  (decide ((p67 n=true)) &&
 (cond (!(s67 n))
 (zjb n values true)
 (cond ((values.len : Int) != n.Nodes)
 (zjb n values true)
 (decide ((0≤(0:Int)∧(0:Int) < (values.len:Int))) &&
 (zjb n values ((values.get 0) != (0:Int)))))))
end
theorem q48 (n:Net) (values:(Sl Int)) (K:List PA→Prop) (hs:p48 n values=true) (hk:K (e48 (s48 n values))):vcFun Tryd.prog G48 zGJ 48 [.agg (zb5 n),.one (.sl values.len 1 (fun i=>enc_3 (values.get i)))] K :=
  zbm (by kernel_rfl) (za4 hs fun hc hs=>And.intro (And.intro (zE zai 4 n.Ties.get) hc) (zc hs hk (fun hs hk=>(zth hs hk)) (fun hs hk=>(zc hs hk (fun hs hk=>(zth hs hk)) (fun hs hk=>(za4 hs fun hc hs=>And.intro hc (zth hs hk)))))))
def zGQ : List PA → COut
  | [.agg [.int .i64 zan,.sl zaj zaR zah],.one (.sl zc1 zfK zcZ)]=>.det (IsE zai 4 zaR zah∧IsE enc_3 1 zfK zcZ∧p48 (⟨zan,(⟨zaj,zat zah⟩:(Sl Tie))⟩:Net) (⟨zc1,zax zcZ⟩:(Sl Int))=true) [.one (.bool (s48 (⟨zan,(⟨zaj,zat zah⟩:(Sl Tie))⟩:Net) (⟨zc1,zax zcZ⟩:(Sl Int))))]
  | _=>.no
theorem zJK:zay Tryd.prog 48:=⟨_,rfl,rfl,by kernel_rfl⟩
theorem zM2:Ok Tryd.prog 48 zGQ:=zbY zLy zJK fun args K h=>by
  unfold zGQ at h
  split at h
  · rename_i zan zaj zaR zah zc1 zfK zcZ
    obtain ⟨⟨⟨rfl,zaH,rfl⟩,⟨rfl,zd5,rfl⟩,hs⟩,hk⟩:=h
    try rw [zav zaH] at hs
    try rw [zav zaH] at hk
    try rw [zbe zd5] at hs
    try rw [zbe zd5] at hk
    exact ⟨(fun _ _=>[]),(fun _=>false),zGJ,q48 (⟨zan,(⟨zaj,zaH⟩:(Sl Tie))⟩:Net) (⟨zc1,zd5⟩:(Sl Int)) K hs hk⟩
  · exact h.elim
abbrev T15:Tabs:=(((((Tabs.nil.addF 21 zGl).addF 26 zBS).addF 38 zGI).addF 40 zGu).addF 48 zGQ)
theorem zLz:TabsOk Tryd.prog T15:=(((((TabsOk.nil.addF zMW).addF zLW).addF zM1).addF zMX).addF zM2)
abbrev G15:Ctrs:=csm T15 (fun _ _=>[]) (fun _=>false)
def zGR:Ann:=⟨253,[(0,zK [0,1,2,3] []),(1,zK [0,1,2,3,53] []),(2,zK [8] []),(3,zK [0,1,2,3,9] []),(4,zK [0,1,2,3,9,58] []),(5,zK [0,1,2,3,9] []),(6,zK [0,1,2,3,9,72] []),(7,zK [8] []),(8,zK [0,1,2,3,10] []),(9,zK [0,1,2,3,10,11] []),(10,zK [0,1,2,3,10,11,77] [188]),(11,zK [0,1,2,3,10,11] [188]),(12,zK [0,1,2,3,10,11,12] [12,188]),(13,zK [0,1,2,3,10,11,12,142] [12,188]),(14,zK [8] []),(15,zK [0,1,2,3,10,11,13] [13,188]),(16,zK [0,1,2,3,10,11] [188]),(17,zK [0,14,15] [14]),(18,zK [0,14,209] [14]),(19,zK [8] []),(20,zK [0,16,17] []),(21,zK [0,16,223] []),(22,zK [8] []),(23,zK [0,16,18] []),(24,zK [0,16,18,227] []),(25,zK [0,16,18] []),(26,zK [0,16,18,251] []),(27,zK [8] []),(28,zK [8] [])],
 [(4,zK [0,1,2,3,9] []),(10,⟨[0,1,2,3,10,11],[188],[(10,188,85,fun _=>zdD default)],[],[],[],[]⟩),(24,zK [0,16,18] [])],
 [(3,zK [0,1,2,3] []),(8,zK [0,1,2,3] []),(15,zK [0,1,2,3,10,11,12] [12,188]),(17,zK [0,10] [188]),(18,zK [0,14,15] [14]),(19,zK [0,14,209] [14]),(20,zK [0,14] [14]),(21,zK [0,16,17] []),(23,zK [0,16] [])],
 [],[]⟩
abbrev R15:=Bool
abbrev e15 (r:R15):List PA:=[.one (.bool r)]
@[irreducible] def z15:=ptF Tryd.prog G15 zGR Tryd.f15
def zDs (clocks:(Sl Int)) (l_a1:(Sl Flash)) (play:Int) (jitter:Int) (iv1:Int):St:=⟨[(0,zS enc_3 1 clocks),(1,zS enc_83 5 l_a1),(2,zI play),(3,zI jitter),(9,zI iv1)],[],[]⟩
abbrev zJL (K:List PA→Prop) (clocks:(Sl Int)) (l_a1:(Sl Flash)) (play:Int) (jitter:Int) (X:St→Prop) (P:Int→Bool) (S:Int→Bool):Prop:=∀ ⦃iv1:Int⦄,P iv1=true→K (e15 (S iv1))→X (zDs clocks l_a1 play jitter iv1)
def zDt (clocks:(Sl Int)) (l_a1:(Sl Flash)) (play:Int) (jitter:Int) (iv3:Int) (zcW:(Sl Pulse)) (zeE:Nat→List PV):St:=⟨[(0,zS enc_3 1 clocks),(1,zS enc_83 5 l_a1),(2,zI play),(3,zI jitter),(10,zv 188),(11,zI iv3)],[(188,.vec 85 7 56 zcW.len zeE)],[]⟩
abbrev zGS (K:List PA→Prop) (clocks:(Sl Int)) (l_a1:(Sl Flash)) (play:Int) (jitter:Int) (X:St→Prop) (P:Int→(Sl Pulse)→Bool) (S:Int→(Sl Pulse)→Bool):Prop:=∀ ⦃iv3:Int⦄ ⦃zcW:(Sl Pulse)⦄ ⦃zeE:Nat→List PV⦄,P iv3 zcW=true→K (e15 (S iv3 zcW))→zeE=zg zdD zcW→X (zDt clocks l_a1 play jitter iv3 zcW zeE)
def zAi (clocks:(Sl Int)) (bv9:(Sl Span)) (zfL:Int):St:=⟨[(0,zS enc_3 1 clocks),(16,zS zbG 2 bv9),(18,zI zfL)],[],[]⟩
abbrev zDu (K:List PA→Prop) (clocks:(Sl Int)) (bv9:(Sl Span)) (X:St→Prop) (P:Int→Bool) (S:Int→Bool):Prop:=∀ ⦃zfL:Int⦄,P zfL=true→K (e15 (S zfL))→X (zAi clocks bv9 zfL)
section
variable {K:List PA→Prop} {clocks:(Sl Int)} {l_a1:(Sl Flash)} {play:Int} {jitter:Int} {iv1:Int} {X1:St→Prop} {P1:Int→Bool} {S1:Int→Bool} {iv3:Int} {zcW:(Sl Pulse)} {zeE:Nat→List PV} {X3:St→Prop} {P3:Int→(Sl Pulse)→Bool} {S3:Int→(Sl Pulse)→Bool} {iv4:Int} {zjc:Int} {zjd:Int} {zl6:Int} {zgp:Int} {zqo:Int} {zee:(Sl Pulse)} {zuJ:Nat→List PV} {zeF:(Sl Pulse)} {zuK:Nat→List PV} {ev6:Int} {zcV:Int} {zcD:(Sl Tie)} {zAj:Nat→List PV} {zl7:Bool} {bv9:(Sl Span)} {fv9:Int} {zJM:Nat→List PV} {zfL:Int} {X11:St→Prop} {P11:Int→Bool} {S11:Int→Bool}
def zgJ (clocks:(Sl Int)) (bv9:(Sl Span)) (S11:Int→Bool) (zfL:Int):Bool :=
  (cond (decide (zfL < (bv9.len : Int)))
 (cond (decide ((clocks.get zfL.toNat) < (bv9.get zfL.toNat).Low))
 false
 (cond (decide ((clocks.get zfL.toNat) > (bv9.get zfL.toNat).High))
 false
 (S11 (w64 (zfL+(1:Int))))))
 true)
def zgK (clocks:(Sl Int)) (bv9:(Sl Span)) (P11:Int→Bool) (zfL:Int):Bool :=
  (cond (decide (zfL < (bv9.len : Int)))
 (decide ((0≤zfL∧zfL < (clocks.len:Int))) &&
 (decide ((0≤zfL∧zfL < (bv9.len:Int))) &&
 (cond (decide ((clocks.get zfL.toNat) < (bv9.get zfL.toNat).Low))
 true
 (decide ((0≤zfL∧zfL < (clocks.len:Int))) &&
 (decide ((0≤zfL∧zfL < (bv9.len:Int))) &&
 (cond (decide ((clocks.get zfL.toNat) > (bv9.get zfL.toNat).High))
 true
 (P11 (w64 (zfL+(1:Int))))))))))
 true)
def zgL (clocks:(Sl Int)) (bv9:(Sl Span)):Nat→Int→Bool:=lpO (fun _=>default) (zgJ clocks bv9)
def zgM (clocks:(Sl Int)) (bv9:(Sl Span)):Nat→Int→Bool:=lpO (fun _=>false) (zgK clocks bv9)
def zoF (clocks:(Sl Int)) (bv9:(Sl Span)) (zfL:Int):Bool:=zgL clocks bv9 Fuel zfL
def zoG (clocks:(Sl Int)) (bv9:(Sl Span)) (zfL:Int):Bool:=zgM clocks bv9 Fuel zfL
theorem zCj (hs:zoG clocks bv9 zfL=true) (hk:K (e15 (zoF clocks bv9 zfL))):z15 K [1,1,1,1,1,1,1,1,1,0,1,0] [] (zAi clocks bv9 zfL) :=
  zl (fun X=>z15 K [1,1,1,1,1,1,1,1,1,0,1,0,0] [X]) (by kernel_rfl) fun X11 hX =>
  (show ∀ k, zDu K clocks bv9 X11 (zgM clocks bv9 k) (zgL clocks bv9 k) from zjK _ _ (zgK clocks bv9) (zgJ clocks bv9) (zDu K clocks bv9 X11)
 (by intro _ hs;exact absurd hs Bool.false_ne_true)
 (by intro P11 S11 hX11 zfL hs hk;exact hX _ (zbm (by kernel_rfl) (zc hs hk (fun hs hk=>(za4 hs fun hc hs=>And.intro hc (za4 hs fun hc hs=>And.intro hc (zc hs hk (fun hs hk=>hk) (fun hs hk=>(za4 hs fun hc hs=>And.intro hc (za4 hs fun hc hs=>And.intro hc (zc hs hk (fun hs hk=>hk) (fun hs hk=>(hX11 hs hk)))))))))) (fun hs hk=>hk))))) _ hs hk
def zoH (clocks:(Sl Int)) (bv9:(Sl Span)):Bool :=
  (zoF clocks bv9 (0:Int))
def zoI (clocks:(Sl Int)) (bv9:(Sl Span)):Bool :=
  (zoG clocks bv9 (0:Int))
theorem zCk (hs:zoI clocks bv9=true) (hk:K (e15 (zoH clocks bv9))):z15 K [1,1,1,1,1,1,1,1,1] [] ⟨[(0,zS enc_3 1 clocks),(16,zS zbG 2 bv9)],[],[]⟩:=zbm (by kernel_rfl) (zCj hs hk)
def zti (clocks:(Sl Int)) (bv9:(Sl Span)) (fv9:Int):Bool :=
  (cond (fv9 != (0:Int))
 false
 (cond ((bv9.len : Int) != (clocks.len : Int))
 false
 (zoH clocks bv9)))
def ztj (clocks:(Sl Int)) (bv9:(Sl Span)) (fv9:Int):Bool :=
  (cond (fv9 != (0:Int))
 true
 (cond ((bv9.len : Int) != (clocks.len : Int))
 true
 (zoI clocks bv9)))
theorem zGT (hs:ztj clocks bv9 fv9=true) (hk:K (e15 (zti clocks bv9 fv9))) (zLA:zJM=zg zbG bv9):z15 K [1,1,1,1,1,1,1,1] [] ⟨[(0,zS enc_3 1 clocks),(16,zP (.sl bv9.len 2 zJM)),(17,zI fv9)],[],[]⟩:=by subst zLA;exact zbm (by kernel_rfl) (zc hs hk (fun hs hk=>hk) (fun hs hk=>(zc hs hk (fun hs hk=>hk) (fun hs hk=>(zCk hs hk)))))
def ztk (clocks:(Sl Int)) (zcV:Int) (zcD:(Sl Tie)):Bool :=
  (zti clocks ((s26 (⟨zcV,zcD⟩:Net)).1) ((s26 (⟨zcV,zcD⟩:Net)).2))
def ztl (clocks:(Sl Int)) (zcV:Int) (zcD:(Sl Tie)):Bool :=
  (decide ((p26 (⟨zcV,zcD⟩:Net)=true)) &&
 (ztj clocks ((s26 (⟨zcV,zcD⟩:Net)).1) ((s26 (⟨zcV,zcD⟩:Net)).2)))
theorem zGU (hs:ztl clocks zcV zcD=true) (hk:K (e15 (ztk clocks zcV zcD))):z15 K [1,1,1,1,1,1,1] [] ⟨[(0,zS enc_3 1 clocks),(14,zp 14 0)],[(14,.box 24 (zm (zb5 (⟨zcV,zcD⟩:Net))))],[]⟩:=zbm (by kernel_rfl) (za4 hs fun hc hs=>And.intro (And.intro (zE zai 4 zcD.get) hc) (zGT hs hk rfl))
def zje (clocks:(Sl Int)) (zcV:Int) (zcD:(Sl Tie)) (zl7:Bool):Bool :=
  (cond zl7
 false
 (ztk clocks zcV zcD))
def zjf (clocks:(Sl Int)) (zcV:Int) (zcD:(Sl Tie)) (zl7:Bool):Bool :=
  (cond zl7
 true
 (ztl clocks zcV zcD))
theorem ztm (hs:zjf clocks zcV zcD zl7=true) (hk:K (e15 (zje clocks zcV zcD zl7))):z15 K [1,1,1,1,1,1,0,1] [] ⟨[(0,zS enc_3 1 clocks),(14,zp 14 0),(209,zB zl7)],[(14,.box 24 (zm (zb5 (⟨zcV,zcD⟩:Net))))],[]⟩:=zbm (by kernel_rfl) (zc hs hk (fun hs hk=>hk) (fun hs hk=>(zGU hs hk)))
def ztn (clocks:(Sl Int)) (ev6:Int) (zcV:Int) (zcD:(Sl Tie)):Bool :=
  (cond (ev6 != (0:Int))
 (zje clocks zcV zcD true)
 (cond (!(s48 (⟨zcV, zcD⟩ : Net) clocks))
 (zje clocks zcV zcD true)
 (zje clocks zcV zcD (!(s38 (⟨zcV,zcD⟩:Net) clocks)))))
def zto (clocks:(Sl Int)) (ev6:Int) (zcV:Int) (zcD:(Sl Tie)):Bool :=
  (cond (ev6 != (0:Int))
 (zjf clocks zcV zcD true)
 (decide ((p48 (⟨zcV,zcD⟩:Net) clocks=true)) &&
 (cond (!(s48 (⟨zcV, zcD⟩ : Net) clocks))
 (zjf clocks zcV zcD true)
 (decide ((p38 (⟨zcV,zcD⟩:Net) clocks=true)) &&
 (zjf clocks zcV zcD (!(s38 (⟨zcV,zcD⟩:Net) clocks)))))))
theorem zGV (hs:zto clocks ev6 zcV zcD=true) (hk:K (e15 (ztn clocks ev6 zcV zcD))) (zGW:zAj=zg zai zcD):z15 K [1,1,1,1,1,1] [] ⟨[(0,zS enc_3 1 clocks),(14,zp 14 0),(15,zI ev6)],[(14,.box 24 [zi zcV,.p (.sl zcD.len 4 zAj)])],[]⟩:=by subst zGW;exact zbm (by kernel_rfl) (zc hs hk (fun hs hk=>(ztm hs hk)) (fun hs hk=>(za4 hs fun hc hs=>And.intro (And.intro (zE zai 4 zcD.get) (And.intro (zE enc_3 1 clocks.get) hc)) (zc hs hk (fun hs hk=>(ztm hs hk)) (fun hs hk=>(za4 hs fun hc hs=>And.intro (And.intro (zE zai 4 zcD.get) (And.intro (zE enc_3 1 clocks.get) hc)) (ztm hs hk)))))))
def zl8 (clocks:(Sl Int)) (zeF:(Sl Pulse)):Bool :=
  (ztn clocks ((s40 (clocks.len:Int) zeF).2) (((s40 (clocks.len:Int) zeF).1).Nodes) (((s40 (clocks.len:Int) zeF).1).Ties))
def zl9 (clocks:(Sl Int)) (zeF:(Sl Pulse)):Bool :=
  (decide ((p40 (clocks.len:Int) zeF=true)) &&
 (zto clocks ((s40 (clocks.len:Int) zeF).2) (((s40 (clocks.len:Int) zeF).1).Nodes) (((s40 (clocks.len:Int) zeF).1).Ties)))
theorem zGX (hs:zl9 clocks zeF=true) (hk:K (e15 (zl8 clocks zeF))) (zCl:zuK=zg zdD zeF):z15 K [1,1,1,1,1] [] ⟨[(0,zS enc_3 1 clocks),(10,zv 188)],[(188,.vec 85 7 56 zeF.len zuK)],[]⟩:=by subst zCl;exact zbm (by kernel_rfl) (za4 hs fun hc hs=>And.intro (And.intro (zE zdD 7 zeF.get) hc) (zGV hs hk rfl))
def ztp (S3:Int→(Sl Pulse)→Bool) (clocks:(Sl Int)) (l_a1:(Sl Flash)) (play:Int) (jitter:Int) (iv4:Int) (zjc:Int) (zjd:Int) (zl6:Int) (zgp:Int) (zqo:Int) (zee:(Sl Pulse)):Bool :=
  (S3 (w64 (iv4+(1:Int))) (⟨(zee.len+1),(zjZ zee.len zee.get (fun _=>(⟨zjc,zjd,(w64 (zl6+(clocks.get zjc.toNat))),(w64 ((w64 ((w64 (zl6+zgp))+(clocks.get zjd.toNat)))+(w64 ((w64 (jitter * zqo)).tdiv (100:Int))))),(⟨(if (w64 (zgp - play)) > (0:Int) then (w64 (zgp - play)) else (0:Int)),(w64 (zgp+play))⟩:Span),jitter⟩:Pulse)))⟩:Sl Pulse))
def ztq (P3:Int→(Sl Pulse)→Bool) (clocks:(Sl Int)) (l_a1:(Sl Flash)) (play:Int) (jitter:Int) (iv4:Int) (zjc:Int) (zjd:Int) (zl6:Int) (zgp:Int) (zqo:Int) (zee:(Sl Pulse)):Bool :=
  (decide ((0≤zjc∧zjc < (clocks.len:Int))) &&
 (decide ((0≤zjd∧zjd < (clocks.len:Int))) &&
 (decide (((100:Int) ≠ 0)) &&
 (decide (((zee.len+1) * 56≤140737488355328∧zee.len+1≤9223372036854775807)) &&
 (P3 (w64 (iv4+(1:Int))) (⟨(zee.len+1),(zjZ zee.len zee.get (fun _=>(⟨zjc,zjd,(w64 (zl6+(clocks.get zjc.toNat))),(w64 ((w64 ((w64 (zl6+zgp))+(clocks.get zjd.toNat)))+(w64 ((w64 (jitter * zqo)).tdiv (100:Int))))),(⟨(if (w64 (zgp - play)) > (0:Int) then (w64 (zgp - play)) else (0:Int)),(w64 (zgp+play))⟩:Span),jitter⟩:Pulse)))⟩:Sl Pulse))))))
theorem zGY (hX3:zGS K clocks l_a1 play jitter X3 P3 S3) (hs:ztq P3 clocks l_a1 play jitter iv4 zjc zjd zl6 zgp zqo zee=true) (hk:K (e15 (ztp S3 clocks l_a1 play jitter iv4 zjc zjd zl6 zgp zqo zee))) (zCm:zuJ=zg zdD zee):z15 K [1,1,1,1,0,1,0,0,1,0,0,1,1] [X3] ⟨[(0,zS enc_3 1 clocks),(1,zS enc_83 5 l_a1),(2,zI play),(3,zI jitter),(10,zv 188),(11,zI iv4),(12,zp 12 0)],[(12,.box 83 (zm (enc_83 (⟨zjc,zjd,zl6,zgp,zqo⟩:Flash)))),(188,.vec 85 7 56 zee.len zuJ)],[]⟩:=by subst zCm;exact zbm (by kernel_rfl) (za4 hs fun hc hs=>And.intro hc (za4 hs fun hc hs=>And.intro hc (za4 hs fun hc hs=>And.intro hc (za4 hs fun hc hs=>And.intro hc (hX3 hs hk (zk2 (enc:=zdD) (f:=zee.get) (h:=(fun _=>(⟨zjc,zjd,(w64 (zl6+(clocks.get zjc.toNat))),(w64 ((w64 ((w64 (zl6+zgp))+(clocks.get zjd.toNat)))+(w64 ((w64 (jitter * zqo)).tdiv (100:Int))))),(⟨(if (w64 (zgp - play)) > (0:Int) then (w64 (zgp - play)) else (0:Int)),(w64 (zgp+play))⟩:Span),jitter⟩:Pulse))) rfl rfl))))))
def zjg (clocks:(Sl Int)) (l_a1:(Sl Flash)) (play:Int) (jitter:Int) (S3:Int→(Sl Pulse)→Bool) (iv3:Int) (zcW:(Sl Pulse)):Bool :=
  (cond (decide (iv3 < (l_a1.len : Int)))
 (cond (decide ((l_a1.get iv3.toNat).A < (0:Int)))
 true
 (cond (decide ((l_a1.get iv3.toNat).A ≥ (clocks.len : Int)))
 true
 (cond (decide ((l_a1.get iv3.toNat).B < (0:Int)))
 true
 (cond (decide ((l_a1.get iv3.toNat).B ≥ (clocks.len : Int)))
 true
 (cond ((l_a1.get iv3.toNat).A == (l_a1.get iv3.toNat).B)
 true
 (cond (decide ((l_a1.get iv3.toNat).Time < (-1000000:Int)))
 true
 (cond (decide ((l_a1.get iv3.toNat).Time > (1000000:Int)))
 true
 (cond (decide ((l_a1.get iv3.toNat).Flight < (0:Int)))
 true
 (cond (decide ((l_a1.get iv3.toNat).Flight > (1000000:Int)))
 true
 (cond (decide ((l_a1.get iv3.toNat).Wrong < (-100:Int)))
 true
 (cond (decide ((l_a1.get iv3.toNat).Wrong > (100:Int)))
 true
 (ztp S3 clocks l_a1 play jitter iv3 ((l_a1.get iv3.toNat).A) ((l_a1.get iv3.toNat).B) ((l_a1.get iv3.toNat).Time) ((l_a1.get iv3.toNat).Flight) ((l_a1.get iv3.toNat).Wrong) zcW))))))))))))
 (zl8 clocks zcW))
def zjh (clocks:(Sl Int)) (l_a1:(Sl Flash)) (play:Int) (jitter:Int) (P3:Int→(Sl Pulse)→Bool) (iv3:Int) (zcW:(Sl Pulse)):Bool :=
  (cond (decide (iv3 < (l_a1.len : Int)))
 (decide ((0≤iv3∧iv3 < (l_a1.len:Int))) &&
 (cond (decide ((l_a1.get iv3.toNat).A < (0:Int)))
 true
 (cond (decide ((l_a1.get iv3.toNat).A ≥ (clocks.len : Int)))
 true
 (cond (decide ((l_a1.get iv3.toNat).B < (0:Int)))
 true
 (cond (decide ((l_a1.get iv3.toNat).B ≥ (clocks.len : Int)))
 true
 (cond ((l_a1.get iv3.toNat).A == (l_a1.get iv3.toNat).B)
 true
 (cond (decide ((l_a1.get iv3.toNat).Time < (-1000000:Int)))
 true
 (cond (decide ((l_a1.get iv3.toNat).Time > (1000000:Int)))
 true
 (cond (decide ((l_a1.get iv3.toNat).Flight < (0:Int)))
 true
 (cond (decide ((l_a1.get iv3.toNat).Flight > (1000000:Int)))
 true
 (cond (decide ((l_a1.get iv3.toNat).Wrong < (-100:Int)))
 true
 (cond (decide ((l_a1.get iv3.toNat).Wrong > (100:Int)))
 true
 (ztq P3 clocks l_a1 play jitter iv3 ((l_a1.get iv3.toNat).A) ((l_a1.get iv3.toNat).B) ((l_a1.get iv3.toNat).Time) ((l_a1.get iv3.toNat).Flight) ((l_a1.get iv3.toNat).Wrong) zcW)))))))))))))
 (zl9 clocks zcW))
def zhw (clocks:(Sl Int)) (l_a1:(Sl Flash)) (play:Int) (jitter:Int):Nat→Int→(Sl Pulse)→Bool:=lpO (fun _ _=>default) (zjg clocks l_a1 play jitter)
def zhx (clocks:(Sl Int)) (l_a1:(Sl Flash)) (play:Int) (jitter:Int):Nat→Int→(Sl Pulse)→Bool:=lpO (fun _ _=>false) (zjh clocks l_a1 play jitter)
def ztr (clocks:(Sl Int)) (l_a1:(Sl Flash)) (play:Int) (jitter:Int) (iv3:Int) (zcW:(Sl Pulse)):Bool:=zhw clocks l_a1 play jitter Fuel iv3 zcW
def zts (clocks:(Sl Int)) (l_a1:(Sl Flash)) (play:Int) (jitter:Int) (iv3:Int) (zcW:(Sl Pulse)):Bool:=zhx clocks l_a1 play jitter Fuel iv3 zcW
theorem zGZ (hs:zts clocks l_a1 play jitter iv3 zcW=true) (hk:K (e15 (ztr clocks l_a1 play jitter iv3 zcW))) (zoJ:zeE=zg zdD zcW):z15 K [1,1,1,1,0,1,0] [] (zDt clocks l_a1 play jitter iv3 zcW zeE) :=
  zl (fun X=>z15 K [1,1,1,1,0,1,0,0] [X]) (by kernel_rfl) fun X3 hX =>
  (show ∀ k, zGS K clocks l_a1 play jitter X3 (zhx clocks l_a1 play jitter k) (zhw clocks l_a1 play jitter k) from zjK _ _ (zjh clocks l_a1 play jitter) (zjg clocks l_a1 play jitter) (zGS K clocks l_a1 play jitter X3)
 (by intro _ _ _ hs;exact absurd hs Bool.false_ne_true)
 (by intro P3 S3 hX3 iv3 zcW zeE hs hk zoJ;subst zoJ;exact hX _ (zbm (by kernel_rfl) (zc hs hk (fun hs hk=>(za4 hs fun hc hs=>And.intro hc (zc hs hk (fun hs hk=>hk) (fun hs hk=>(zc hs hk (fun hs hk=>hk) (fun hs hk=>(zc hs hk (fun hs hk=>hk) (fun hs hk=>(zc hs hk (fun hs hk=>hk) (fun hs hk=>(zc hs hk (fun hs hk=>hk) (fun hs hk=>(zc hs hk (fun hs hk=>hk) (fun hs hk=>(zc hs hk (fun hs hk=>hk) (fun hs hk=>(zc hs hk (fun hs hk=>hk) (fun hs hk=>(zc hs hk (fun hs hk=>hk) (fun hs hk=>(zc hs hk (fun hs hk=>hk) (fun hs hk=>(zc hs hk (fun hs hk=>hk) (fun hs hk=>(zGY hX3 hs hk rfl))))))))))))))))))))))))) (fun hs hk=>(zGX hs hk rfl)))))) _ hs hk zoJ
def zji (clocks:(Sl Int)) (l_a1:(Sl Flash)) (play:Int) (jitter:Int):Bool :=
  (ztr clocks l_a1 play jitter (0:Int) (⟨0,(fun _=>default)⟩:Sl Pulse))
def zma (clocks:(Sl Int)) (l_a1:(Sl Flash)) (play:Int) (jitter:Int):Bool :=
  (zts clocks l_a1 play jitter (0:Int) (⟨0,(fun _=>default)⟩:Sl Pulse))
theorem zG0 (hs:zma clocks l_a1 play jitter=true) (hk:K (e15 (zji clocks l_a1 play jitter))):z15 K [1,1,1] [] ⟨[(0,zS enc_3 1 clocks),(1,zS enc_83 5 l_a1),(2,zI play),(3,zI jitter)],[],[]⟩:=zbm (by kernel_rfl) (zGZ hs hk rfl)
def zeN (clocks:(Sl Int)) (l_a1:(Sl Flash)) (play:Int) (jitter:Int) (S1:Int→Bool) (iv1:Int):Bool :=
  (cond (decide (iv1 < (clocks.len : Int)))
 (cond (decide ((clocks.get iv1.toNat) < (-1000000:Int)))
 true
 (cond (decide ((clocks.get iv1.toNat) > (1000000:Int)))
 true
 (S1 (w64 (iv1+(1:Int))))))
 (zji clocks l_a1 play jitter))
def zeO (clocks:(Sl Int)) (l_a1:(Sl Flash)) (play:Int) (jitter:Int) (P1:Int→Bool) (iv1:Int):Bool :=
  (cond (decide (iv1 < (clocks.len : Int)))
 (decide ((0≤iv1∧iv1 < (clocks.len:Int))) &&
 (cond (decide ((clocks.get iv1.toNat) < (-1000000:Int)))
 true
 (decide ((0≤iv1∧iv1 < (clocks.len:Int))) &&
 (cond (decide ((clocks.get iv1.toNat) > (1000000:Int)))
 true
 (P1 (w64 (iv1+(1:Int))))))))
 (zma clocks l_a1 play jitter))
def zeP (clocks:(Sl Int)) (l_a1:(Sl Flash)) (play:Int) (jitter:Int):Nat→Int→Bool:=lpO (fun _=>default) (zeN clocks l_a1 play jitter)
def zeQ (clocks:(Sl Int)) (l_a1:(Sl Flash)) (play:Int) (jitter:Int):Nat→Int→Bool:=lpO (fun _=>false) (zeO clocks l_a1 play jitter)
def zAk (clocks:(Sl Int)) (l_a1:(Sl Flash)) (play:Int) (jitter:Int) (iv1:Int):Bool:=zeP clocks l_a1 play jitter Fuel iv1
def zAl (clocks:(Sl Int)) (l_a1:(Sl Flash)) (play:Int) (jitter:Int) (iv1:Int):Bool:=zeQ clocks l_a1 play jitter Fuel iv1
theorem zG1 (hs:zAl clocks l_a1 play jitter iv1=true) (hk:K (e15 (zAk clocks l_a1 play jitter iv1))):z15 K [1,1,0,1,0] [] (zDs clocks l_a1 play jitter iv1) :=
  zl (fun X=>z15 K [1,1,0,1,0,0] [X]) (by kernel_rfl) fun X1 hX =>
  (show ∀ k, zJL K clocks l_a1 play jitter X1 (zeQ clocks l_a1 play jitter k) (zeP clocks l_a1 play jitter k) from zjK _ _ (zeO clocks l_a1 play jitter) (zeN clocks l_a1 play jitter) (zJL K clocks l_a1 play jitter X1)
 (by intro _ hs;exact absurd hs Bool.false_ne_true)
 (by intro P1 S1 hX1 iv1 hs hk;exact hX _ (zbm (by kernel_rfl) (zc hs hk (fun hs hk=>(za4 hs fun hc hs=>And.intro hc (zc hs hk (fun hs hk=>hk) (fun hs hk=>(za4 hs fun hc hs=>And.intro hc (zc hs hk (fun hs hk=>hk) (fun hs hk=>(hX1 hs hk)))))))) (fun hs hk=>(zG0 hs hk)))))) _ hs hk
def zAm (clocks:(Sl Int)) (l_a1:(Sl Flash)) (play:Int) (jitter:Int):Bool :=
  (zAk clocks l_a1 play jitter (0:Int))
def zAn (clocks:(Sl Int)) (l_a1:(Sl Flash)) (play:Int) (jitter:Int):Bool :=
  (zAl clocks l_a1 play jitter (0:Int))
theorem zG2 (hs:zAn clocks l_a1 play jitter=true) (hk:K (e15 (zAm clocks l_a1 play jitter))):z15 K [1,1] [] ⟨[(0,zS enc_3 1 clocks),(1,zS enc_83 5 l_a1),(2,zI play),(3,zI jitter)],[],[]⟩:=zbm (by kernel_rfl) (zG1 hs hk)
def s15 (clocks:(Sl Int)) (l_a1:(Sl Flash)) (play:Int) (jitter:Int):Bool :=
  (cond (decide ((clocks.len : Int) < (1:Int)))
 true
 (cond (decide ((clocks.len : Int) > (7:Int)))
 true
 (cond ((clocks.get 0) != (0:Int))
 true
 (cond (decide ((l_a1.len : Int) > (20:Int)))
 true
 (cond (decide (play < (0:Int)))
 true
 (cond (decide (play > (1000000:Int)))
 true
 (cond (decide (jitter < (0:Int)))
 true
 (cond (decide (jitter > (1000000:Int)))
 true
 (zAm clocks l_a1 play jitter)))))))))
def p15 (clocks:(Sl Int)) (l_a1:(Sl Flash)) (play:Int) (jitter:Int):Bool :=
  (cond (decide ((clocks.len : Int) < (1:Int)))
 true
 (cond (decide ((clocks.len : Int) > (7:Int)))
 true
 (decide ((0≤(0:Int)∧(0:Int) < (clocks.len:Int))) &&
 (cond ((clocks.get 0) != (0:Int))
 true
 (cond (decide ((l_a1.len : Int) > (20:Int)))
 true
 (cond (decide (play < (0:Int)))
 true
 (cond (decide (play > (1000000:Int)))
 true
 (cond (decide (jitter < (0:Int)))
 true
 (cond (decide (jitter > (1000000:Int)))
 true
 (zAn clocks l_a1 play jitter))))))))))
end
theorem q15 (clocks:(Sl Int)) (l_a1:(Sl Flash)) (play:Int) (jitter:Int) (K:List PA→Prop) (hs:p15 clocks l_a1 play jitter=true) (hk:K (e15 (s15 clocks l_a1 play jitter))):vcFun Tryd.prog G15 zGR 15 [.one (.sl clocks.len 1 (fun i=>enc_3 (clocks.get i))),.one (.sl l_a1.len 5 (fun i=>enc_83 (l_a1.get i))),.one (.int .i64 play),.one (.int .i64 jitter)] K :=
  zbm (by kernel_rfl) (zc hs hk (fun hs hk=>hk) (fun hs hk=>(zc hs hk (fun hs hk=>hk) (fun hs hk=>(za4 hs fun hc hs=>And.intro hc (zc hs hk (fun hs hk=>hk) (fun hs hk=>(zc hs hk (fun hs hk=>hk) (fun hs hk=>(zc hs hk (fun hs hk=>hk) (fun hs hk=>(zc hs hk (fun hs hk=>hk) (fun hs hk=>(zc hs hk (fun hs hk=>hk) (fun hs hk=>(zc hs hk (fun hs hk=>hk) (fun hs hk=>(zG2 hs hk))))))))))))))))))
def zJN : List PA → COut
  | [.one (.sl ze3 zlw ze4),.one (.sl zc1 zfK zcZ),.one (.int .i64 a2),.one (.int .i64 a3)]=>.det (IsE enc_3 1 zlw ze4∧IsE enc_83 5 zfK zcZ∧p15 (⟨ze3,zax ze4⟩:(Sl Int)) (⟨zc1,zrg zcZ⟩:(Sl Flash)) a2 a3=true) [.one (.bool (s15 (⟨ze3,zax ze4⟩:(Sl Int)) (⟨zc1,zrg zcZ⟩:(Sl Flash)) a2 a3))]
  | _=>.no
theorem zJO:zay Tryd.prog 15:=⟨_,rfl,rfl,by kernel_rfl⟩
theorem ok15:Ok Tryd.prog 15 zJN:=zbY zLz zJO fun args K h=>by
  unfold zJN at h
  split at h
  · rename_i ze3 zlw ze4 zc1 zfK zcZ a2 a3
    obtain ⟨⟨⟨rfl,zhq,rfl⟩,⟨rfl,zd5,rfl⟩,hs⟩,hk⟩:=h
    try rw [zbe zhq] at hs
    try rw [zbe zhq] at hk
    try rw [zk5 zd5] at hs
    try rw [zk5 zd5] at hk
    exact ⟨(fun _ _=>[]),(fun _=>false),zGR,q15 (⟨ze3,zhq⟩:(Sl Int)) (⟨zc1,zd5⟩:(Sl Flash)) a2 a3 K hs hk⟩
  · exact h.elim
end Go.Proofs
namespace Go.Proofs.YtedhjaaikeakoaaDoor
open Go Go.Pm Go.ChangeShapes
set_option maxRecDepth 100000
abbrev laid1 : List (String × DataW Unit) := [("overburden/align.never", Rows.laid_overburden_align_never)]
theorem zDv : Tryd.prog.globalNamed "overburden/align.never" = some 0 := by kernel_rfl
theorem zJP:(Tryd.prog.globals[0]?).map (·.type)=some 114:=by kernel_rfl
theorem zJQ:Tryd.prog.cellsOf 114=2:=by kernel_rfl
theorem zL7:Tryd.prog.cellsOf 3=1:=by kernel_rfl
theorem door_met (os:Os) (args:Array Value):laidMetH Tryd.prog laid1 ((World.doorLaid Tryd.prog 400 os).forCall (fun _ _=>0) ⟨#[],args,[]⟩).memory :=
 laidMetH_of_parts3 (fuel:=8) (laidMet_of_run' 8 (by kernel_rfl) (by kernel_rfl)) (by kernel_rfl) (by kernel_rfl)
theorem gl_of {W:World} (h:laidMetH Tryd.prog laid1 W):zeh (H0 W):=by
 rw [MakeChecks.laidMetH_plain _ _ _ (by kernel_rfl)] at h
 obtain ⟨ps,⟨g0,t0,cs0,f0,p0,q0,hg0,ht0,hv0,hd0,_,_⟩,_,_⟩:=h
 obtain rfl:=Option.some.inj (zDv.symm.trans hg0)
 obtain rfl:=Option.some.inj (zJP.symm.trans ht0)
 obtain ⟨y0,y1,n,hx,hl,h0,h1⟩:=trod_struct2 Tryd.underlying114 hd0
 simp only [Prod.mk.injEq] at hx
 obtain ⟨hx,-⟩:=hx
 simp only [Rows.laid_overburden_align_never,DataW.agg.injEq,List.cons.injEq,and_true] at hx
 obtain ⟨k0,e0,d0,_⟩:=DataW.trod_int Tryd.underlying3 h0
 obtain ⟨k1,e1,d1,_⟩:=DataW.trod_int Tryd.underlying3 h1
 rw [zJQ] at hl
 have e0':cs0.toList.take 1=[.int .i64 k0]:=by
  have:=e0
  rw [show Tryd.prog.cellsOf _=1 from zL7] at this
  simpa using this
 have e1':(cs0.toList.drop 1).take 1=[.int .i64 k1]:=by
  have:=e1
  rw [show Tryd.prog.cellsOf _=1 from zL7] at this
  simpa using this
 have hk0:k0=1000000000000:=by have:=hx.1;rw [d0] at this;injection this with a;injection a with _ a;exact a.symm
 have hk1:k1=0:=by have:=hx.2;rw [d1] at this;injection this with a;injection a with _ a;exact a.symm
 have hC:cs0.toList=[.int .i64 1000000000000,.int .i64 0]:=by
  have h2:cs0.toList=cs0.toList.take 1 ++ (cs0.toList.drop 1).take 1:=by
   rw [← List.take_add,List.take_of_length_le (by omega)]
  rw [h2,e0',e1',hk0,hk1];rfl
 intro k l hk
 unfold World.var? at hv0
 rw [zDv] at hv0
 simp only [Option.bind_some] at hv0
 cases k with
 | succ k=>cases hk
 | zero =>
  obtain rfl:[PV.int .i64 1000000000000,.int .i64 0]=l:=Option.some.inj hk
  cases eo:W.heap[0]? with
  | none=>rw [eo] at hv0;cases hv0
  | some o =>
   rw [eo] at hv0
   cases o with
   | cells C ty fr =>
    simp only [Option.some.injEq] at hv0
    subst hv0
    exact ⟨_,ty,fr,by unfold H0;rw [eo];rfl,by rw [hC];exact ⟨.int _ _,.int _ _,trivial⟩⟩
   | _=>cases hv0
end Go.Proofs.YtedhjaaikeakoaaDoor
namespace Go.Proofs.YtedhjaaikeakoaaDoor
set_option maxRecDepth 100000
def dc : Nat → Nat → List Char
  | 0,_=>[]
  | k+1,n=>Char.ofNat (n % 128) :: dc k (n / 128)
def ioR:List (List Char):=[dc 2 14945,dc 38 107265865644741724912243125268531249640326942553430557205577479631290979090791279,dc 38 108293077817484906734254386447616441263814988321737617043972465573863363972791151,dc 38 93370879016013017278412803021783510280543711028000410236402271261457424383048559,dc 38 107258694022858408970435192345127867927486736974969802526482043864463718682819439,dc 39 13746719959472648153406769131206406626558510298776447130317981093147086104311724911,dc 38 107266209769642888316488957616301258915172789321380384129051881327065490379078511,dc 39 13738338888634744287462113483281891133786406809494667074737303271467843731645365103,dc 38 107308724040215521434011850380931925905298338556088488294726402895071789331348335,dc 43 3689337697451499537899652006011379275272339788637320245734945509069109267079825879406836591,dc 38 106339254617564648824502995819756623291246721172574690728430612464564447869500271,dc 38 107330772524736890892060720350443696785457349727637599143704802418857719933533039,dc 38 107266380701743786104986999119182321999123657451770743386930499759721679104342895,dc 38 107308728471136676073553801914045189487148679029700448428114571309412341010496367,dc 37 837954515553292543489687687552621780150771894250034810644180755742461368302447,dc 38 107287017468262091873827311208814906259154281073825133055543027267698112966785903,dc 38 107374028509112486977837548216825331243033985081330090052312008930171490580134767,dc 38 107265533895345759970156929786145176805363222797160045994169685653949991330872175]
def ioN:List Char:=dc 748 14110378018767575964226655308004126793045208087310171201555892242252648960690434620806224759478349222793457564936136773140206884019406577404308477398112682127111429688458091804136369451876026010391452929509304596612007749348823331848074321521876163367611471766311661795807971626777430789606670518996161301806853738256348343737238826384171739901612950230839336053519876648582653265928992265003442337249315020340640568624042171724319570015876863120612063908539839480788963015814409324055605425425582212723687691771037045010066064867754736841809752569547023397197010564985861497252960727260554984899190782686002829257997185443421456271698218584945985148990383891392482548262956659989814614329905290488435125286744085629934720469444029598243369313538259143807170350259387234145666063103371643809341342441092158617040725699310351084585854817129011753246127748964030413854525633190715875548631480060648955255476518703717934493416584654287151545453027212072361023366870608725576042669368667333719675724995494706645777621137060304017521484702088503639607947747215026989263530504204523251982333933107210391579300884546305432560571086131943194743723205005815139772394062686780566686930384812217785365992657908782936586832589627342388339882126362151219006413773645814561079952905486963953952063552645778936398310246717058410743450648594152841163565946295251582585294350653230459132165827590128826417871324965536217148578987470925657879977171716100377657863588641203253643922875913460814715430695689192746980757875303892414899783421563436119681070640173712093473782554642421452415184974056
theorem ioS:Tryd.prog.initOrder=String.ofList ioN:=by kernel_rfl
theorem ioL:Tryd.prog.initOrder.toList=ioN:=(congrArg String.toList ioS).trans String.toList_ofList
theorem ioW:wordsSigns Tryd.prog.initOrder.toList=(dc 7 509754063237352) :: (dc 64 583581952082889979719035725534559484815115086455805852996510235646750355970935781905203483690318741732481452225105900421668580921071669) :: (dc 3 1915619) :: ioR:=(congrArg wordsSigns ioL).trans (by kernel_rfl)
theorem ioB:behindMainWord (wordsSigns Tryd.prog.initOrder.toList)=(dc 3 1915619) :: ioR:=(congrArg behindMainWord ioW).trans (by kernel_rfl)
theorem zqp {P : Program} {l : List (List Char)} (h : behindMainWord (wordsSigns P.initOrder.toList) = l) : P.headLifts = (if (stripLifts liftWords l).2.head? == some "cut".toList then (stripLifts liftWords l).1 else []) := by subst h; rfl
theorem zG3 {P:Program} {rest:List (List Char)} (h:behindMainWord (wordsSigns P.initOrder.toList)=(dc 3 1915619) :: rest):P.make=some .cut:=by unfold Program.make;rw [h];rfl
theorem zCn {P:Program} {rest:List (List Char)} (h:behindMainWord (wordsSigns P.initOrder.toList)=(dc 3 1915619) :: rest) (hl:P.headLifts=[]):P.liftsFinal=false:=by unfold Program.liftsFinal;rw [h,hl];rfl
theorem zG4 {P : Program} {a b : List Char} {rest : List (List Char)} (h : wordsSigns P.initOrder.toList = a :: b :: rest) (hs : isSumSigns b = true) (ha : (a == "harness".toList) = true) : P.mainIs = some (true, b) := by unfold Program.mainIs; rw [h]; simp only [hs, ha]; rfl
theorem zCo {P : Program} {c : List Char} {rest : List (List Char)} (h : behindMainWord (wordsSigns P.initOrder.toList) = c :: rest) (hst : (stripLifts liftWords (c :: rest)).2.head? = some "cut".toList)
    (hs1:(stripLifts liftWords (c :: rest)).1=[]) (hlay:P.laysLater=false) (hb:P.bearsReflect=false) (hd:P.doorFits []=true):P.mayEnter=true:=by
  unfold Program.mayEnter
  rw [h]
  simp [hst,hs1,hlay,hb,hd]
theorem ioH:Tryd.prog.headLifts=[]:=(zqp ioB).trans (by kernel_rfl)
theorem ioK:Tryd.prog.make=some .cut:=zG3 ioB
theorem ioF:Tryd.prog.liftsFinal=false:=zCn ioB ioH
theorem ioM : Tryd.prog.mainIs = some (true, "5097d02014b7f9bdc457588f16a61179f96daee4a085c0a2c5462d863db43dbf".toList) := (zG4 ioW (by kernel_rfl) (by kernel_rfl)).trans (by kernel_rfl)
theorem ioE:Tryd.prog.mayEnter=true:=zCo ioB (by kernel_rfl) (by kernel_rfl) (by kernel_rfl) (by kernel_rfl) (by kernel_rfl)
end Go.Proofs.YtedhjaaikeakoaaDoor
namespace Go.Pm
open Go

theorem zb7 {x:Int} (h1 : -9223372036854775808≤x) (h2:x≤9223372036854775807):w64 x=x:=by
 have hb:IntKind.i64.bits=64:=rfl
 have hs:IntKind.i64.signed=true:=rfl
 unfold w64 IntKind.wrap
 rw [hb,hs]
 simp only [Bool.true_and,decide_eq_true_eq]
 split <;> omega
def zL8 (c : Nat → Bool) : Nat → Nat → Nat
  | 0,i=>i
  | m+1,i=>match c i with | true=>i | false=>zL8 c m (i+1)
def fst (c:Nat→Bool) (n:Nat):Nat:=zL8 c n 0
theorem zfu {good : Nat → Bool} {fin : Bool} {n : Nat} {lpS lpP : Nat → Int → Bool}
    (hS:∀ (k i:Nat),i < n→lpS (k+1) (i:Int)=cond (good i) (lpS k (w64 ((i:Int)+(1:Int)))) false)
    (hE:∀ k,lpS (k+1) (n:Int)=fin)
    (hP:∀ (k i:Nat),i < n→lpP (k+1) (i:Int)=cond (good i) (lpP k (w64 ((i:Int)+(1:Int)))) true)
    (hPE:∀ k,lpP (k+1) (n:Int)=true) (hn:n≤9223372036854775807) :
    lpP Fuel 0=true∧(lpS Fuel 0=true↔(∀ i,i < n→good i=true)∧fin=true):=by
  have key:∀ (m k i:Nat),i+m=n→m < k→lpP k (i:Int)=true∧(lpS k (i:Int)=true↔(∀ j,i≤j→j < n→good j=true)∧fin=true):=by
    intro m
    induction m with
    | zero =>
      intro k i hi hk
      obtain ⟨k,rfl⟩:∃ k',k=k'+1:=⟨k - 1,by omega⟩
      have:i=n:=by omega
      subst this
      rw [hE,hPE]
      exact ⟨rfl,⟨fun h=>⟨fun j h1 h2=>absurd h2 (by omega),h⟩,fun h=>h.2⟩⟩
    | succ m ih =>
      intro k i hi hk
      obtain ⟨k,rfl⟩:∃ k',k=k'+1:=⟨k - 1,by omega⟩
      rw [hS k i (by omega),hP k i (by omega)]
      have e3:w64 ((i:Int)+1)=((i+1:Nat):Int):=by rw [zb7 (by omega) (by omega)];omega
      rw [e3]
      obtain ⟨h1,h2⟩:=ih k (i+1) (by omega) (by omega)
      cases hg:good i
      · refine ⟨rfl, ⟨fun h => (by cases h), fun h => ?_⟩⟩
        have:=h.1 i (Nat.le_refl _) (by omega)
        rw [hg] at this;cases this
      · refine ⟨h1, h2.trans ⟨fun h => ⟨fun j hj1 hj2 => ?_, h.2⟩, fun h => ⟨fun j hj1 hj2 => h.1 j (by omega) hj2, h.2⟩⟩⟩
        by_cases hji:j=i
        · rw [hji];exact hg
        · exact h.1 j (by omega) hj2
  have:=key n Fuel 0 (by omega) (by simp only [Fuel];omega)
  simpa using this

end Go.Pm
namespace Go.Pm
open Go
theorem zih {i n:Nat} (h:i < n) (hn:n≤9223372036854775807):w64 ((i:Int)+(1:Int))=((i+1:Nat):Int):=by
 rw [zb7 (by omega) (by omega)];omega
theorem ztt {β : Type} {good : Nat → Bool} {bad fin : β} {finP : Bool} {n : Nat} {lpS : Nat → Int → β} {lpP : Nat → Int → Bool}
    (hS:∀ (k i:Nat),i < n→lpS (k+1) (i:Int)=cond (good i) (lpS k (w64 ((i:Int)+(1:Int)))) bad)
    (hE:∀ k,lpS (k+1) (n:Int)=fin)
    (hP:∀ (k i:Nat),i < n→lpP (k+1) (i:Int)=cond (good i) (lpP k (w64 ((i:Int)+(1:Int)))) true)
    (hPE:∀ k,lpP (k+1) (n:Int)=finP) (hn:n≤9223372036854775807) :
    ((∀ i,i < n→good i=true)→lpP Fuel 0=finP∧lpS Fuel 0=fin)∧((¬ ∀ i,i < n→good i=true)→lpP Fuel 0=true∧lpS Fuel 0=bad):=by
  have key:∀ (m k i:Nat),i+m=n→m < k→((∀ j,i≤j→j < n→good j=true)→lpP k (i:Int)=finP∧lpS k (i:Int)=fin)∧((¬ ∀ j,i≤j→j < n→good j=true)→lpP k (i:Int)=true∧lpS k (i:Int)=bad):=by
    intro m
    induction m with
    | zero =>
      intro k i hi hk
      obtain ⟨k,rfl⟩:∃ k',k=k'+1:=⟨k - 1,by omega⟩
      have:i=n:=by omega
      subst this
      rw [hE,hPE]
      exact ⟨fun _=>⟨rfl,rfl⟩,fun h=>absurd (fun j h1 h2=>absurd h2 (by omega)) h⟩
    | succ m ih =>
      intro k i hi hk
      obtain ⟨k,rfl⟩:∃ k',k=k'+1:=⟨k - 1,by omega⟩
      rw [hS k i (by omega),hP k i (by omega),zih (n:=n) (by omega) hn]
      obtain ⟨h1,h2⟩:=ih k (i+1) (by omega) (by omega)
      cases hg:good i
      · refine ⟨fun h => ?_, fun _ => ⟨rfl, rfl⟩⟩
        have:=h i (Nat.le_refl _) (by omega)
        rw [hg] at this;cases this
      · refine ⟨fun h => h1 fun j a b => h j (by omega) b, fun h => h2 fun h' => h fun j a b => ?_⟩
        by_cases hji:j=i
        · rw [hji];exact hg
        · exact h' j (by omega) b
  have:=key n Fuel 0 (by omega) (by simp only [Fuel];omega)
  simpa using this
def zgS {σ : Type} (step : Nat → σ → σ) : Nat → Nat → σ → σ
  | 0,_,s=>s
  | m+1,i,s=>zgS step m (i+1) (step i s)
theorem zAo {σ β : Type} {step : Nat → σ → σ} {E : σ → β} {EP : σ → Bool} {Inv : Nat → σ → Prop} {a n : Nat} {lpS : Nat → σ → Int → β} {lpP : Nat → σ → Int → Bool}
    (hS:∀ (k i:Nat) (s:σ),a≤i→i < n→Inv i s→lpS (k+1) s (i:Int)=lpS k (step i s) (w64 ((i:Int)+(1:Int))))
    (hE:∀ k s,lpS (k+1) s (n:Int)=E s)
    (hP:∀ (k i:Nat) (s:σ),a≤i→i < n→Inv i s→lpP (k+1) s (i:Int)=lpP k (step i s) (w64 ((i:Int)+(1:Int))))
    (hPE:∀ k s,lpP (k+1) s (n:Int)=EP s)
    (hI:∀ i s,a≤i→i < n→Inv i s→Inv (i+1) (step i s)) (ha:a≤n) (hn:n≤9223372036854775807) (s:σ) (h0:Inv a s) :
    lpP Fuel s (a:Int)=EP (zgS step (n - a) a s)∧lpS Fuel s (a:Int)=E (zgS step (n - a) a s):=by
  have key:∀ (m k i:Nat) (s:σ),a≤i→i+m=n→m < k→Inv i s→lpP k s (i:Int)=EP (zgS step m i s)∧lpS k s (i:Int)=E (zgS step m i s):=by
    intro m
    induction m with
    | zero =>
      intro k i s h1 hi hk _
      obtain ⟨k,rfl⟩:∃ k',k=k'+1:=⟨k - 1,by omega⟩
      have:i=n:=by omega
      subst this
      rw [hE,hPE]
      exact ⟨rfl,rfl⟩
    | succ m ih =>
      intro k i s h1 hi hk hs
      obtain ⟨k,rfl⟩:∃ k',k=k'+1:=⟨k - 1,by omega⟩
      rw [hS k i s h1 (by omega) hs,hP k i s h1 (by omega) hs,zih (n:=n) (by omega) hn]
      exact ih k (i+1) (step i s) (by omega) (by omega) (by omega) (hI i s h1 (by omega) hs)
  exact key (n - a) Fuel a s (Nat.le_refl _) (by omega) (by simp only [Fuel];omega) h0
end Go.Pm
namespace Go.Proofs
open Go Go.Pm
set_option maxRecDepth 100000
set_option linter.unusedVariables false
attribute [local irreducible] Go.Pm.vcFun Go.Pm.vc Go.Pm.vcIter
section
variable {K:List PA→Prop} {a:Net} {b:Net} {iv1:Int} {X1:St→Prop} {P1:Int→Bool} {S1:Int→Bool}
end
end Go.Proofs
namespace Go.Proofs
open Go Go.Pm
set_option maxRecDepth 100000
theorem zmb (n a b:Int):s81 n a b=decide (a≤n∧n≤b):=by
 unfold s81
 by_cases h:a≤n
 ·rw [decide_eq_true (show n ≥ a from h),cond_true];exact decide_eq_decide.2 ⟨fun k=>⟨h,k⟩,fun k=>k.2⟩
 ·rw [decide_eq_false (show ¬ n ≥ a from h),cond_false];exact (decide_eq_false (fun k=>h k.1)).symm
theorem zDw (n a b:Int):s72 n a b=decide (a≤n∧n≤b):=zmb n a b
theorem zDx (n:Net) (hn:n.Ties.len≤9223372036854775807):p67 n=true∧(s67 n=true↔(∀ i,i < n.Ties.len→s78 (n.Ties.get i) n.Nodes=true)∧(1≤n.Nodes∧n.Nodes≤40)∧n.Ties.len≤200):=by
  have := zfu (good := fun i => s78 (n.Ties.get i) n.Nodes) (fin := cond (s81 n.Nodes (1:Int) (40:Int)) (decide ((n.Ties.len : Int) ≤ (200:Int))) false) (n := n.Ties.len) (lpS := ziB n) (lpP := ziC n)
    (fun k i hi=>by
      show ziz n (ziB n k) (i:Int)=_
      generalize ziB n k=S
      unfold ziz zri
      rw [decide_eq_true (show (i:Int) < (n.Ties.len:Int) by omega),cond_true,Int.toNat_natCast]
      cases s78 (n.Ties.get i) n.Nodes <;> rfl)
    (fun k=>by
      show ziz n (ziB n k) (n.Ties.len:Int)=_
      unfold ziz
      rw [decide_eq_false (show ¬ (n.Ties.len:Int) < (n.Ties.len:Int) by omega),cond_false])
    (fun k i hi=>by
      show ziA n (ziC n k) (i:Int)=_
      generalize ziC n k=S
      unfold ziA zrj
      rw [decide_eq_true (show (i:Int) < (n.Ties.len:Int) by omega),cond_true,Int.toNat_natCast,decide_eq_true (show 0≤(i:Int)∧(i:Int) < (n.Ties.len:Int) by omega),Bool.true_and]
      cases s78 (n.Ties.get i) n.Nodes <;> rfl)
    (fun k=>by
      show ziA n (ziC n k) (n.Ties.len:Int)=_
      unfold ziA
      rw [decide_eq_false (show ¬ (n.Ties.len:Int) < (n.Ties.len:Int) by omega),cond_false])
    hn
  refine ⟨this.1,this.2.trans ?_⟩
  rw [zmb]
  by_cases h:1≤n.Nodes∧n.Nodes≤40
  · rw [decide_eq_true h,cond_true,decide_eq_true_eq];exact ⟨fun k=>⟨k.1,h,by omega⟩,fun k=>⟨k.1,by omega⟩⟩
  · rw [decide_eq_false h,cond_false];exact ⟨fun k=>absurd k.2 (by decide),fun k=>absurd k.2.1 h⟩
end Go.Proofs
namespace Go.Proofs
open Go Go.Pm
set_option maxRecDepth 100000
set_option linter.unusedVariables false
attribute [local irreducible] Go.Pm.vcFun Go.Pm.vc Go.Pm.vcIter
abbrev T36:Tabs:=(Tabs.nil.addF 72 zCi)
abbrev G36:Ctrs:=csm T36 (fun _ _=>[]) (fun _=>false)
def zLB:Ann:=⟨51,[(0,zK [0,3] [3]),(1,zK [3,32] [3]),(2,zK [4] []),(3,zK [4] [])],
 [],
 [(2,zK [3,32] [3]),(3,zK [3] [3])],
 [],[]⟩
@[irreducible] def z36:=ptF Tryd.prog G36 zLB Tryd.f36
section
variable {K:List PA→Prop} {nodes:Int} {t:Tie} {zM3:Bool}
end
section
variable {K:List PA→Prop} {n:Net} {zcH:Bool} {iv2:Int} {X2:St→Prop} {P2:Int→Bool} {S2:Int→Bool} {iv3:Int} {zM4:Bool}
end
section
variable {K:List PA→Prop} {n:Net}
end
section
variable {K:List PA→Prop} {n:Net} {ties:Int}
end
end Go.Proofs
namespace Go.Proofs
open Go Go.Pm
set_option maxRecDepth 100000
set_option linter.unusedVariables false
theorem dlt (x y:Int):decide (x < y) = !decide (x ≥ y):=by
 by_cases h:x < y
 ·rw [decide_eq_true h,decide_eq_false (show ¬ x ≥ y by omega)];rfl
 ·rw [decide_eq_false h,decide_eq_true (show x ≥ y by omega)];rfl
theorem dgt (x y:Int):decide (x > y) = !decide (x≤y):=by
 by_cases h:x > y
 ·rw [decide_eq_true h,decide_eq_false (show ¬ x≤y by omega)];rfl
 ·rw [decide_eq_false h,decide_eq_true (show x≤y by omega)];rfl
structure TieOk (t : Tie) (nodes : Int) : Prop where
  f0:0≤t.From
  f1:t.From < nodes
  t0:0≤t.To
  t1:t.To < nodes
  ne:t.From ≠ t.To
  lo:t.Low = -1000000000000∨(-1000000000≤t.Low∧t.Low≤1000000000)
  hi:t.High=1000000000000∨(-1000000000≤t.High∧t.High≤1000000000)
  le:t.Low≤t.High
theorem zAp (t:Tie) (nodes:Int) (h1:1≤nodes) (h2:nodes≤40):s78 t nodes=true↔TieOk t nodes:=by
 have e:s78 t nodes=(decide (0≤t.From∧t.From < nodes) && (decide (0≤t.To∧t.To < nodes) && (!(t.From == t.To) && (((t.Low == (-1000000000000:Int)) || decide (-1000000000≤t.Low∧t.Low≤1000000000)) && (((t.High == (1000000000000:Int)) || decide (-1000000000≤t.High∧t.High≤1000000000)) && decide (t.Low≤t.High)))))):=by
  unfold s78 znV znU
  rw [zb7 (x:=nodes - 1) (by omega) (by omega)]
  simp only [zmb]
  rw [decide_eq_decide.2 (show (0≤t.From∧t.From≤nodes - 1)↔(0≤t.From∧t.From < nodes) by omega),decide_eq_decide.2 (show (0≤t.To∧t.To≤nodes - 1)↔(0≤t.To∧t.To < nodes) by omega)]
  simp only [bne]
  generalize decide (0≤t.From∧t.From < nodes)=a
  generalize decide (0≤t.To∧t.To < nodes)=b
  generalize (t.From == t.To)=c
  generalize (t.Low == (-1000000000000:Int))=d
  generalize (t.High == (1000000000000:Int))=e
  generalize decide (-1000000000≤t.Low∧t.Low≤1000000000)=f
  generalize decide (-1000000000≤t.High∧t.High≤1000000000)=g
  generalize decide (t.Low≤t.High)=h
  cases a <;> cases b <;> cases c <;> cases d <;> cases e <;> cases f <;> cases g <;> cases h <;> rfl
 rw [e]
 simp only [Bool.and_eq_true,Bool.or_eq_true,decide_eq_true_eq,Bool.not_eq_true',beq_eq_false_iff_ne,beq_iff_eq]
 constructor
 ·rintro ⟨⟨a,b⟩,⟨c,d⟩,e,f,g,h⟩;exact ⟨a,b,c,d,e,f,g,h⟩
 ·rintro ⟨a,b,c,d,e,f,g,h⟩;exact ⟨⟨a,b⟩,⟨c,d⟩,e,f,g,h⟩
structure NetOk (n : Net) : Prop where
  n1:1≤n.Nodes
  n40:n.Nodes≤40
  len:n.Ties.len≤200
  tie:∀ i,i < n.Ties.len→TieOk (n.Ties.get i) n.Nodes
theorem zAq (n:Net) (hn:n.Ties.len≤9223372036854775807):p67 n=true∧(s67 n=true↔NetOk n):=by
 obtain ⟨h1,h2⟩:=zDx n hn
 refine ⟨h1,h2.trans ?_⟩
 constructor
 ·rintro ⟨a,⟨b,c⟩,d⟩;exact ⟨b,c,by omega,fun i hi=>(zAp _ _ b c).1 (a i hi)⟩
 ·rintro ⟨b,c,d,a⟩;exact ⟨fun i hi=>(zAp _ _ b c).2 (a i hi),⟨b,c⟩,by omega⟩
structure ValOk (n : Net) (v : Sl Int) : Prop where
  len:(v.len:Int)=n.Nodes
  zero:v.get 0=0
  b:∀ i,i < v.len→-1000000000000≤v.get i∧v.get i≤1000000000000
def Keep (t:Tie) (v:Sl Int):Prop:=(t.Low = -1000000000000∨t.Low≤v.get t.To.toNat - v.get t.From.toNat)∧(t.High=1000000000000∨v.get t.To.toNat - v.get t.From.toNat≤t.High)
structure AgOk (n : Net) (v : Sl Int) : Prop where
  val:ValOk n v
  keep:∀ i,i < n.Ties.len→Keep (n.Ties.get i) v
theorem zG5 (n:Net) (h1:1≤n.Nodes) (v:Sl Int) (hv:v.len≤9223372036854775807):p80 n v=true∧(s80 n v=true↔ValOk n v):=by
  have hl := zfu (good := fun i => s72 (v.get i) (-1000000000000:Int) (1000000000000:Int)) (fin := true) (n := v.len) (lpS := zhv v) (lpP := zi1 v)
    (fun k i hi=>by
      show ziZ v (zhv v k) (i:Int)=_
      generalize zhv v k=S
      unfold ziZ zsW
      rw [decide_eq_true (show (i:Int) < (v.len:Int) by omega),cond_true,Int.toNat_natCast]
      cases s72 (v.get i) (-1000000000000:Int) (1000000000000:Int) <;> rfl)
    (fun k=>by
      show ziZ v (zhv v k) (v.len:Int)=_
      unfold ziZ
      rw [decide_eq_false (show ¬ (v.len:Int) < (v.len:Int) by omega),cond_false])
    (fun k i hi=>by
      show zi0 v (zi1 v k) (i:Int)=_
      generalize zi1 v k=S
      unfold zi0 zsX
      rw [decide_eq_true (show (i:Int) < (v.len:Int) by omega),cond_true,Int.toNat_natCast,decide_eq_true (show 0≤(i:Int)∧(i:Int) < (v.len:Int) by omega),Bool.true_and]
      cases s72 (v.get i) (-1000000000000:Int) (1000000000000:Int) <;> rfl)
    (fun k=>by
      show zi0 v (zi1 v k) (v.len:Int)=_
      unfold zi0
      rw [decide_eq_false (show ¬ (v.len:Int) < (v.len:Int) by omega),cond_false])
    hv
  have h3:zhv v Fuel 0=true↔∀ i,i < v.len→-1000000000000≤v.get i∧v.get i≤1000000000000:=hl.2.trans ⟨fun h i hi=>by have:=h.1 i hi;rw [zDw] at this;exact of_decide_eq_true this,fun h=>⟨fun i hi=>by rw [zDw];exact decide_eq_true (h i hi),rfl⟩⟩
  unfold p80 s80 zs4 zs3 zsZ zsY
  rw [hl.1]
  by_cases a:(v.len:Int)=n.Nodes
  · rw [show ((v.len : Int) != n.Nodes) = false by rw [a]; exact bne_self_eq_false _, cond_false, cond_false]
    by_cases b:v.get 0=0
    · rw [show (v.get 0 != (0:Int)) = false by rw [b]; rfl, cond_false, cond_false]
      exact ⟨by rw [decide_eq_true (show 0≤(0:Int)∧(0:Int) < (v.len:Int) by omega)];rfl,h3.trans ⟨fun h=>⟨a,b,h⟩,fun h=>h.b⟩⟩
    · rw [show (v.get 0 != (0:Int)) = true from bne_iff_ne.2 b, cond_true, cond_true]
      exact ⟨by rw [decide_eq_true (show 0≤(0:Int)∧(0:Int) < (v.len:Int) by omega)];rfl,fun h=>absurd h Bool.false_ne_true,fun h=>absurd h.zero b⟩
  · rw [show ((v.len : Int) != n.Nodes) = true from bne_iff_ne.2 a, cond_true, cond_true]
    exact ⟨rfl,fun h=>absurd h Bool.false_ne_true,fun h=>absurd h.len a⟩
theorem zmc (t:Tie) (n:Net) (v:Sl Int) (ht:TieOk t n.Nodes) (hv:ValOk n v):p39 t v=true∧(s39 t v=true↔Keep t v):=by
 have h1:=hv.b t.To.toNat (by have:=ht.t0;have:=ht.t1;have:=hv.len;omega)
 have h2:=hv.b t.From.toNat (by have:=ht.f0;have:=ht.f1;have:=hv.len;omega)
 have:=ht.f0;have:=ht.f1;have:=ht.t0;have:=ht.t1;have:=hv.len
 constructor
 ·unfold p39
  rw [decide_eq_true (show 0≤t.To∧t.To < (v.len:Int) by omega),decide_eq_true (show 0≤t.From∧t.From < (v.len:Int) by omega)];rfl
 ·unfold s39 Keep
  rw [zb7 (by omega) (by omega)]
  by_cases a:t.Low = -1000000000000
  ·rw [show (t.Low == (-1000000000000:Int)) = true from beq_iff_eq.2 a, cond_true]
   by_cases b:t.High=1000000000000
   ·rw [show (t.High == (1000000000000:Int))=true from beq_iff_eq.2 b,cond_true];exact ⟨fun _=>⟨.inl a,.inl b⟩,fun _=>rfl⟩
   ·rw [show (t.High == (1000000000000:Int))=false from beq_eq_false_iff_ne.2 b,cond_false,decide_eq_true_eq];exact ⟨fun h=>⟨.inl a,.inr h⟩,fun h=>h.2.resolve_left b⟩
  ·rw [show (t.Low == (-1000000000000:Int)) = false from beq_eq_false_iff_ne.2 a, cond_false]
   by_cases c:t.Low≤v.get t.To.toNat - v.get t.From.toNat
   ·rw [decide_eq_true (show v.get t.To.toNat - v.get t.From.toNat ≥ t.Low from c), cond_true]
    by_cases b:t.High=1000000000000
    ·rw [show (t.High == (1000000000000:Int))=true from beq_iff_eq.2 b,cond_true];exact ⟨fun _=>⟨.inr c,.inl b⟩,fun _=>rfl⟩
    ·rw [show (t.High == (1000000000000:Int))=false from beq_eq_false_iff_ne.2 b,cond_false,decide_eq_true_eq];exact ⟨fun h=>⟨.inr c,.inr h⟩,fun h=>h.2.resolve_left b⟩
   ·rw [decide_eq_false (show ¬ v.get t.To.toNat - v.get t.From.toNat ≥ t.Low from c), cond_false]
    exact ⟨fun h=>absurd h Bool.false_ne_true,fun h=>absurd (h.1.resolve_left a) c⟩
theorem zG6 (n:Net) (v:Sl Int) (hn:NetOk n) (hv:v.len≤9223372036854775807):p38 n v=true∧(s38 n v=true↔AgOk n v):=by
  obtain ⟨h1,h2⟩:=zG5 n hn.n1 v hv
  unfold p38 s38
  rw [h1]
  by_cases hV:s80 n v=true
  · have hV' := h2.1 hV
    have hlen:=hn.len
    have hl := zfu (good := fun i => s39 (n.Ties.get i) v) (fin := true) (n := n.Ties.len) (lpS := zi4 n v) (lpP := zi5 n v)
      (fun k i hi=>by
        show zi2 n v (zi4 n v k) (i:Int)=_
        generalize zi4 n v k=S
        unfold zi2 zs6
        rw [decide_eq_true (show (i:Int) < (n.Ties.len:Int) by omega),cond_true,Int.toNat_natCast]
        cases s39 (n.Ties.get i) v <;> rfl)
      (fun k=>by
        show zi2 n v (zi4 n v k) (n.Ties.len:Int)=_
        unfold zi2
        rw [decide_eq_false (show ¬ (n.Ties.len:Int) < (n.Ties.len:Int) by omega),cond_false])
      (fun k i hi=>by
        show zi3 n v (zi5 n v k) (i:Int)=_
        generalize zi5 n v k=S
        unfold zi3 zs7
        rw [decide_eq_true (show (i:Int) < (n.Ties.len:Int) by omega),cond_true,Int.toNat_natCast,decide_eq_true (show 0≤(i:Int)∧(i:Int) < (n.Ties.len:Int) by omega),Bool.true_and,decide_eq_true (zmc _ n v (hn.tie i hi) hV').1,Bool.true_and]
        cases s39 (n.Ties.get i) v <;> rfl)
      (fun k=>by
        show zi3 n v (zi5 n v k) (n.Ties.len:Int)=_
        unfold zi3
        rw [decide_eq_false (show ¬ (n.Ties.len:Int) < (n.Ties.len:Int) by omega),cond_false])
      (by omega)
    rw [hV]
    unfold ztd ztc ztb zta zs9 zs8
    refine ⟨by rw [hl.1];rfl,Iff.trans (Iff.trans (by rfl) hl.2) ?_⟩
    exact ⟨fun h=>⟨hV',fun i hi=>(zmc _ n v (hn.tie i hi) hV').2.1 (h.1 i hi)⟩,fun h=>⟨fun i hi=>(zmc _ n v (hn.tie i hi) hV').2.2 (h.keep i hi),rfl⟩⟩
  · have hV0 : s80 n v = false := Bool.eq_false_iff.2 hV
    rw [hV0]
    exact ⟨rfl,fun h=>absurd h Bool.false_ne_true,fun h=>absurd (h2.2 h.val) hV⟩
theorem zG7 (n:Net) (v:Sl Int) (hn:NetOk n) (hg:s67 n=true) (hv:v.len≤9223372036854775807):p48 n v=true∧(s48 n v=true↔AgOk n v):=by
  have hlen:=hn.len
  have h1:=hn.n1
  unfold p48 s48
  rw [hg,(zDx n (by omega)).1]
  by_cases a:(v.len:Int)=n.Nodes
  · rw [show ((v.len : Int) != n.Nodes) = false by rw [a]; exact bne_self_eq_false _]
    by_cases b:v.get 0=0
    · rw [show (v.get 0 != (0:Int)) = false by rw [b]; rfl, decide_eq_true (show 0 ≤ (0:Int) ∧ (0:Int) < (v.len : Int) by omega)]
      have key:(∀ i,i < v.len→-1000000000000≤v.get i∧v.get i≤1000000000000)→zoy n v=true∧(zl5 n v=true↔∀ i,i < n.Ties.len→Keep (n.Ties.get i) v):=fun hb=>by
        have hV:ValOk n v:=⟨a,b,hb⟩
        have hl := zfu (good := fun i => s39 (n.Ties.get i) v) (fin := true) (n := n.Ties.len) (lpS := zi8 n v) (lpP := zi9 n v)
          (fun k i hi=>by
            show zi6 n v (zi8 n v k) (i:Int)=_
            generalize zi8 n v k=S
            unfold zi6 s39
            rw [decide_eq_true (show (i:Int) < (n.Ties.len:Int) by omega),cond_true,Int.toNat_natCast]
            simp only [bne,dlt,dgt];cases (n.Ties.get i).Low == (-1000000000000:Int) <;> cases (n.Ties.get i).High == (1000000000000:Int) <;> cases decide (w64 (v.get (n.Ties.get i).To.toNat - v.get (n.Ties.get i).From.toNat) ≥ (n.Ties.get i).Low) <;> cases decide (w64 (v.get (n.Ties.get i).To.toNat - v.get (n.Ties.get i).From.toNat)≤(n.Ties.get i).High) <;> rfl)
          (fun k=>by
            show zi6 n v (zi8 n v k) (n.Ties.len:Int)=_
            unfold zi6
            rw [decide_eq_false (show ¬ (n.Ties.len:Int) < (n.Ties.len:Int) by omega),cond_false])
          (fun k i hi=>by
            show zi7 n v (zi9 n v k) (i:Int)=_
            generalize zi9 n v k=S
            unfold zi7 s39
            rw [decide_eq_true (show (i:Int) < (n.Ties.len:Int) by omega),cond_true,Int.toNat_natCast,decide_eq_true (show 0≤(i:Int)∧(i:Int) < (n.Ties.len:Int) by omega),Bool.true_and,decide_eq_true (show 0≤(n.Ties.get i).To∧(n.Ties.get i).To < (v.len:Int) from ⟨(hn.tie i hi).t0,by rw [a];exact (hn.tie i hi).t1⟩),decide_eq_true (show 0≤(n.Ties.get i).From∧(n.Ties.get i).From < (v.len:Int) from ⟨(hn.tie i hi).f0,by rw [a];exact (hn.tie i hi).f1⟩),Bool.true_and,Bool.true_and]
            simp only [bne,dlt,dgt];cases (n.Ties.get i).Low == (-1000000000000:Int) <;> cases (n.Ties.get i).High == (1000000000000:Int) <;> cases decide (w64 (v.get (n.Ties.get i).To.toNat - v.get (n.Ties.get i).From.toNat) ≥ (n.Ties.get i).Low) <;> cases decide (w64 (v.get (n.Ties.get i).To.toNat - v.get (n.Ties.get i).From.toNat)≤(n.Ties.get i).High) <;> rfl)
          (fun k=>by
            show zi7 n v (zi9 n v k) (n.Ties.len:Int)=_
            unfold zi7
            rw [decide_eq_false (show ¬ (n.Ties.len:Int) < (n.Ties.len:Int) by omega),cond_false])
          (by omega)
        exact ⟨hl.1,hl.2.trans ⟨fun h i hi=>(zmc _ n v (hn.tie i hi) hV).2.1 (h.1 i hi),fun h=>⟨fun i hi=>(zmc _ n v (hn.tie i hi) hV).2.2 (h i hi),rfl⟩⟩⟩
      by_cases hb:∀ i,i < v.len→-1000000000000≤v.get i∧v.get i≤1000000000000
      · obtain ⟨k1, k2⟩ := key hb
        have hl := zfu (good := fun i => s81 (v.get i) (-1000000000000:Int) (1000000000000:Int)) (fin := zl5 n v) (n := v.len) (lpS := zeL n v) (lpP := zeM n v)
          (fun k i hi=>by
            show zeJ n v (zeL n v k) (i:Int)=_
            generalize zeL n v k=S
            unfold zeJ zoz
            rw [decide_eq_true (show (i:Int) < (v.len:Int) by omega),cond_true,Int.toNat_natCast]
            cases s81 (v.get i) (-1000000000000:Int) (1000000000000:Int) <;> rfl)
          (fun k=>by
            show zeJ n v (zeL n v k) (v.len:Int)=_
            unfold zeJ
            rw [decide_eq_false (show ¬ (v.len:Int) < (v.len:Int) by omega),cond_false])
          (fun k i hi=>by
            show zeK n v (zeM n v k) (i:Int)=_
            generalize zeM n v k=S
            unfold zeK zoA
            rw [decide_eq_true (show (i:Int) < (v.len:Int) by omega),cond_true,Int.toNat_natCast,decide_eq_true (show 0≤(i:Int)∧(i:Int) < (v.len:Int) by omega),Bool.true_and]
            cases s81 (v.get i) (-1000000000000:Int) (1000000000000:Int) <;> rfl)
          (fun k=>by
            show zeK n v (zeM n v k) (v.len:Int)=_
            unfold zeK
            rw [decide_eq_false (show ¬ (v.len:Int) < (v.len:Int) by omega),cond_false];exact k1)
          hv
        refine ⟨by unfold zjb zoE zoC;rw [hl.1];rfl,?_⟩
        unfold zja zoD zoB
        refine Iff.trans (Iff.trans (by rfl) hl.2) ?_
        rw [k2]
        exact ⟨fun h=>⟨⟨a,b,hb⟩,h.2⟩,fun h=>⟨fun i hi=>by rw [zmb];exact decide_eq_true (hb i hi),h.keep⟩⟩
      · have hb' : ¬ ∀ i, i < v.len → s81 (v.get i) (-1000000000000:Int) (1000000000000:Int) = true := fun h => hb fun i hi => by have := h i hi; rw [zmb] at this; exact of_decide_eq_true this
        have hl := ztt (good := fun i => s81 (v.get i) (-1000000000000:Int) (1000000000000:Int)) (bad := false) (fin := zl5 n v) (finP := zoy n v) (n := v.len) (lpS := zeL n v) (lpP := zeM n v)
          (fun k i hi=>by
            show zeJ n v (zeL n v k) (i:Int)=_
            generalize zeL n v k=S
            unfold zeJ zoz
            rw [decide_eq_true (show (i:Int) < (v.len:Int) by omega),cond_true,Int.toNat_natCast]
            cases s81 (v.get i) (-1000000000000:Int) (1000000000000:Int) <;> rfl)
          (fun k=>by
            show zeJ n v (zeL n v k) (v.len:Int)=_
            unfold zeJ
            rw [decide_eq_false (show ¬ (v.len:Int) < (v.len:Int) by omega),cond_false])
          (fun k i hi=>by
            show zeK n v (zeM n v k) (i:Int)=_
            generalize zeM n v k=S
            unfold zeK zoA
            rw [decide_eq_true (show (i:Int) < (v.len:Int) by omega),cond_true,Int.toNat_natCast,decide_eq_true (show 0≤(i:Int)∧(i:Int) < (v.len:Int) by omega),Bool.true_and]
            cases s81 (v.get i) (-1000000000000:Int) (1000000000000:Int) <;> rfl)
          (fun k=>by
            show zeK n v (zeM n v k) (v.len:Int)=_
            unfold zeK
            rw [decide_eq_false (show ¬ (v.len:Int) < (v.len:Int) by omega),cond_false])
          hv
        obtain ⟨k1,k2⟩:=hl.2 hb'
        refine ⟨by unfold zjb zoE zoC;rw [k1];rfl,?_⟩
        unfold zja zoD zoB
        rw [k2]
        exact ⟨fun h=>absurd h Bool.false_ne_true,fun h=>absurd h.val.b hb⟩
    · rw [show (v.get 0 != (0:Int)) = true from bne_iff_ne.2 b, decide_eq_true (show 0 ≤ (0:Int) ∧ (0:Int) < (v.len : Int) by omega)]
      exact ⟨rfl,fun h=>absurd h Bool.false_ne_true,fun h=>absurd h.val.zero b⟩
  · rw [show ((v.len : Int) != n.Nodes) = true from bne_iff_ne.2 a]
    exact ⟨rfl,fun h=>absurd h Bool.false_ne_true,fun h=>absurd h.val.len a⟩
end Go.Proofs
namespace Go.Pm
structure Ed where
  u:Nat
  v:Nat
  w:Int
def wt : List Ed → Int
  | []=>0
  | e :: l=>e.w+wt l
theorem zm5 (c d:List Ed):wt (c ++ d)=wt c+wt d:=by
 induction c with
 | nil=>show wt d=0+wt d;omega
 | cons e l ih=>show e.w+wt (l ++ d)=e.w+wt l+wt d;omega
theorem zqq (e:Ed):wt [e]=e.w:=Int.add_zero _
def zhz (E : List Ed) : Nat → List Ed → Nat → Prop
  | a,[],b=>a=b
  | a,e :: l,b=>e∈E∧e.u=a∧zhz E e.v l b
theorem zgN {E:List Ed} {c d:List Ed} {a b:Nat} : zhz E a (c ++ d) b↔∃ m,zhz E a c m∧zhz E m d b:=by
 induction c generalizing a with
 | nil=>exact ⟨fun h=>⟨a,rfl,h⟩,fun ⟨m,h1,h2⟩=>by cases h1;exact h2⟩
 | cons e l ih =>
  constructor
  ·rintro ⟨h1, h2, h3⟩
   obtain ⟨m,k1,k2⟩:=ih.1 h3
   exact ⟨m,⟨h1,h2,k1⟩,k2⟩
  ·rintro ⟨m, ⟨h1, h2, h3⟩, h4⟩
   exact ⟨h1,h2,ih.2 ⟨m,h3,h4⟩⟩
theorem zii {E:List Ed} {e:Ed} (h:e∈E):zhz E e.u [e] e.v:=⟨h,rfl,rfl⟩
def zcw (E:List Ed):Prop:=∀ a c,zhz E a c a→0≤wt c
abbrev zdm:=Nat→Option Int
def zuL (d:zdm) (v:Nat) (x:Int):zdm:=fun j=>if j=v then some x else d j
def ltO (x : Int) : Option Int → Bool
  | none=>true
  | some y=>decide (x < y)
def rlF (s:zdm×Bool) (e:Ed):zdm×Bool :=
 match s.1 e.u with
 | none=>s
 | some x=>cond (ltO (x+e.w) (s.1 e.v)) (zuL s.1 e.v (x+e.w),true) s
def Sat (d:zdm) (e:Ed):Prop:=∀ x,d e.u=some x→∃ y,d e.v=some y∧y≤x+e.w
theorem zqr {x:Int} {o:Option Int} (h:ltO x o=false):∃ y,o=some y∧y≤x:=by
 cases o with
 | none=>cases h
 | some y=>exact ⟨y,rfl,Int.not_lt.1 (of_decide_eq_false h)⟩
theorem zJR {x y:Int} (h:y≤x):ltO x (some y)=false:=decide_eq_false (Int.not_lt.2 h)
theorem zAr {d:zdm} {c:Bool} {e:Ed} (h:Sat d e):rlF (d,c) e=(d,c):=by
 unfold rlF
 cases hu:d e.u with
 | none=>simp only [hu]
 | some x =>
  obtain ⟨y,h1,h2⟩:=h x hu
  simp only [hu,h1,zJR h2,cond_false]
theorem zG8 {d:zdm} {c:Bool} {e:Ed} (h : ¬ Sat d e):(rlF (d,c) e).2=true:=by
 unfold rlF
 cases hu:d e.u with
 | none=>exact absurd (fun x hx=>by rw [hu] at hx;cases hx) h
 | some x =>
  simp only [hu]
  cases hl:ltO (x+e.w) (d e.v)
  ·obtain ⟨y, h1, h2⟩ := zqr hl
   exact absurd (fun x' hx'=>⟨y,h1,by rw [hu] at hx';cases hx';exact h2⟩) h
  ·rfl
theorem zCp {s:zdm×Bool} {e:Ed} (h:s.2=true):(rlF s e).2=true:=by
 unfold rlF
 cases s.1 e.u with
 | none=>exact h
 | some x=>simp only [];cases ltO (x+e.w) (s.1 e.v) <;> first | exact h | rfl
theorem zAs {E:List Ed} {s:zdm×Bool} (h:s.2=true):(E.foldl rlF s).2=true:=by
 induction E generalizing s with
 | nil=>exact h
 | cons e l ih=>exact ih (zCp h)
theorem zj4 {E:List Ed} {d:zdm} {c:Bool} (h:∀ e∈E,Sat d e):E.foldl rlF (d,c)=(d,c):=by
 induction E with
 | nil=>rfl
 | cons e l ih =>
  show l.foldl rlF (rlF (d,c) e)=_
  rw [zAr (h e (List.mem_cons_self ..))]
  exact ih fun e he=>h e (List.mem_cons_of_mem _ he)
theorem zjj {E:List Ed} {d:zdm} {c:Bool} (h:(E.foldl rlF (d,c)).2=false):∀ e∈E,Sat d e:=by
 induction E with
 | nil=>intro e he;cases he
 | cons e l ih =>
  have h':(l.foldl rlF (rlF (d,c) e)).2=false:=h
  have hs:Sat d e:=Classical.byContradiction fun hn=>by
   rw [zAs (zG8 hn)] at h';cases h'
  rw [zAr hs] at h'
  intro e' he'
  rcases List.mem_cons.1 he' with rfl | hm
  ·exact hs
  ·exact ih h' e' hm
def leO (a b:Option Int):Prop:=∀ y,b=some y→∃ x,a=some x∧x≤y
theorem zgO (a:Option Int):leO a a:=fun y h=>⟨y,h,Int.le_refl _⟩
theorem zgq {a b c:Option Int} (h1:leO a b) (h2:leO b c):leO a c:=fun y h=>by
 obtain ⟨x,hx,hxy⟩:=h2 y h
 obtain ⟨z,hz,hzx⟩:=h1 x hx
 exact ⟨z,hz,Int.le_trans hzx hxy⟩
theorem zAt (s:zdm×Bool) (e:Ed) (v:Nat):leO ((rlF s e).1 v) (s.1 v):=by
 unfold rlF
 cases hu:s.1 e.u with
 | none=>exact zgO _
 | some x =>
  simp only []
  cases hl:ltO (x+e.w) (s.1 e.v)
  ·exact zgO _
  ·show leO (zuL s.1 e.v (x + e.w) v) _
   unfold zuL
   by_cases hv:v=e.v
   ·rw [if_pos hv]
    intro y hy
    refine ⟨_,rfl,?_⟩
    rw [hv] at hy
    rw [hy] at hl
    exact Int.le_of_lt (of_decide_eq_true hl)
   ·rw [if_neg hv];exact zgO _
theorem zAu (E:List Ed) (s:zdm×Bool) (v:Nat):leO ((E.foldl rlF s).1 v) (s.1 v):=by
 induction E generalizing s with
 | nil=>exact zgO _
 | cons e l ih=>exact zgq (ih (rlF s e)) (zAt s e v)
theorem zJS {s:zdm×Bool} {e:Ed} {x:Int} (h:s.1 e.u=some x):leO ((rlF s e).1 e.v) (some (x+e.w)):=by
 unfold rlF
 simp only [h]
 cases hl:ltO (x+e.w) (s.1 e.v)
 ·obtain ⟨y, h1, h2⟩ := zqr hl
  intro z hz;cases hz
  exact ⟨y,h1,h2⟩
 ·intro z hz; cases hz
  exact ⟨x+e.w,by show zuL s.1 e.v (x+e.w) e.v=_;unfold zuL;rw [if_pos rfl],Int.le_refl _⟩
theorem zCq {E:List Ed} {s:zdm×Bool} {e:Ed} {x:Int} (he:e∈E) (h:s.1 e.u=some x):leO ((E.foldl rlF s).1 e.v) (some (x+e.w)):=by
 induction E generalizing s x with
 | nil=>cases he
 | cons f l ih =>
  rcases List.mem_cons.1 he with rfl | hm
  ·exact zgq (zAu l (rlF s e) e.v) (zJS h)
  ·obtain ⟨x', h1, h2⟩ := zAt s f e.u x h
   intro z hz;cases hz
   obtain ⟨y,k1,k2⟩:=ih hm h1 _ rfl
   exact ⟨y,k1,by omega⟩
def rnd (E:List Ed) (d:zdm):zdm:=(E.foldl rlF (d,false)).1
def rds (E : List Ed) : Nat → zdm → zdm
  | 0,d=>d
  | k+1,d=>rds E k (rnd E d)
theorem zuM (E:List Ed) (k:Nat) (d:zdm) (v:Nat):leO (rds E k d v) (d v):=by
 induction k generalizing d with
 | zero=>exact zgO _
 | succ k ih=>exact zgq (ih (rnd E d)) (zAu E (d,false) v)
theorem zJT {E:List Ed} {c:List Ed} : ∀ {a b k:Nat} {d:zdm} {y:Int},zhz E a c b→d a=some y→c.length≤k→leO (rds E k d b) (some (y+wt c)):=by
 induction c with
 | nil =>
  intro a b k d y h hd _
  cases h
  intro z hz;cases hz
  obtain ⟨x,h1,h2⟩:=zuM E k d a y hd
  exact ⟨x,h1,by show x≤y+0;omega⟩
 | cons e l ih =>
  intro a b k d y h hd hk
  obtain ⟨k,rfl⟩:∃ k',k=k'+1:=⟨k - 1,by simp only [List.length_cons] at hk;omega⟩
  obtain ⟨h1,h2,h3⟩:=h
  subst h2
  obtain ⟨x,k1,k2⟩:=zCq (s:=(d,false)) h1 hd _ rfl
  intro z hz;cases hz
  obtain ⟨z,m1,m2⟩:=ih (k:=k) (d:=rnd E d) h3 k1 (by simp only [List.length_cons] at hk;omega) _ rfl
  exact ⟨z,m1,by show z≤y+(e.w+wt l);omega⟩
def Fix (E:List Ed) (d:zdm):Prop:=∀ e∈E,Sat d e
theorem zmd {E:List Ed} {d:zdm} (h:Fix E d):rnd E d=d:=by unfold rnd;rw [zj4 h]
theorem zAv {E:List Ed} {d:zdm} (h:Fix E d) (k:Nat):rds E k d=d:=by
 induction k with
 | zero=>rfl
 | succ k ih=>show rds E k (rnd E d)=d;rw [zmd h,ih]
theorem zqs (n:Nat):∀ {l:List Nat},l.Nodup→(∀ x∈l,x < n)→l.length≤n:=by
 induction n with
 | zero =>
  intro l _ h
  cases l with
  | nil=>exact Nat.le_refl _
  | cons x l=>exact absurd (h x (List.mem_cons_self ..)) (Nat.not_lt_zero _)
 | succ n ih =>
  intro l hd h
  have h1:=ih (l:=l.filter (fun x=>x != n)) (hd.filter _) (fun x hx=>by
   obtain ⟨hx1,hx2⟩:=List.mem_filter.1 hx
   have:=h x hx1
   have:x ≠ n:=by simpa using hx2
   omega)
  have h2:l.length≤(l.filter (fun x=>x != n)).length+1:=by
   clear h1 ih h
   induction l with
   | nil=>exact Nat.zero_le _
   | cons x l ihl =>
    rw [List.nodup_cons] at hd
    by_cases hx:x=n
    ·subst hx
     have:l.filter (fun y=>y != x)=l:=List.filter_eq_self.2 fun y hy=>by
      have:y ≠ x:=fun e=>hd.1 (e ▸ hy)
      simpa using this
     rw [List.filter_cons_of_neg (by simp),this]
     exact Nat.le_refl _
    ·rw [List.filter_cons_of_pos (by simpa using hx)]
     have:=ihl hd.2
     simp only [List.length_cons];omega
  omega
def nodes (a:Nat) (c:List Ed):List Nat:=a :: c.map Ed.v
theorem zqu (a:Nat) (c:List Ed):(nodes a c).length=c.length+1:=by simp [nodes]
theorem zCr {E:List Ed} {c:List Ed} : ∀ {a b m:Nat},zhz E a c b→m∈nodes a c→∃ c1 c2,c=c1 ++ c2∧zhz E a c1 m∧zhz E m c2 b:=by
 induction c with
 | nil =>
  intro a b m h hm
  have:m=a:=by simpa [nodes] using hm
  subst this
  exact ⟨[],[],rfl,rfl,h⟩
 | cons e l ih =>
  intro a b m h hm
  rcases List.mem_cons.1 hm with rfl | hm'
  ·exact ⟨[],e :: l,rfl,rfl,h⟩
  ·obtain ⟨h1, h2, h3⟩ := h
   obtain ⟨c1,c2,k1,k2,k3⟩:=ih h3 (m:=m) (by simpa [nodes] using hm')
   exact ⟨e :: c1,c2,by rw [k1];rfl,⟨h1,h2,k2⟩,k3⟩
structure Att (E : List Ed) (Src : Nat → Prop) (d : zdm) (v : Nat) (x : Int) (a : Nat) (c : List Ed) : Prop where
  src:Src a
  ch:zhz E a c v
  wt:x=wt c
  nd:(nodes a c).Nodup
  pre:∀ c1 c2 m,c=c1 ++ c2→zhz E a c1 m→leO (d m) (some (Go.Pm.wt c1))
def Inv (E:List Ed) (Src:Nat→Prop) (d:zdm):Prop:=∀ v x,d v=some x→∃ a c,Att E Src d v x a c
theorem zJU {d d':zdm} {E:List Ed} {Src:Nat→Prop} {v:Nat} {x:Int} {a:Nat} {c:List Ed} (h:Att E Src d v x a c) (hd:∀ m,leO (d' m) (d m)):Att E Src d' v x a c :=
 ⟨h.src,h.ch,h.wt,h.nd,fun c1 c2 m h1 h2=>zgq (hd m) (h.pre c1 c2 m h1 h2)⟩
theorem zuN {d:zdm} {E:List Ed} {Src:Nat→Prop} (hn:zcw E) {e:Ed} (he:e∈E) {x:Int} {a:Nat} {c:List Ed} (h:Att E Src d e.u x a c) (hm:e.v∈nodes a c):leO (d e.v) (some (x+e.w)):=by
 obtain ⟨c1,c2,k1,k2,k3⟩:=zCr h.ch hm
 have hc:=hn e.v (c2 ++ [e]) (zgN.2 ⟨e.u,k3,zii he⟩)
 rw [zm5,zqq] at hc
 have hx:=h.wt
 rw [k1,zm5] at hx
 obtain ⟨y,m1,m2⟩:=h.pre c1 c2 e.v k1 k2 _ rfl
 intro z hz;cases hz
 exact ⟨y,m1,by omega⟩
theorem zCs {E:List Ed} {c:List Ed} : ∀ {a b b':Nat},zhz E a c b→zhz E a c b'→b=b':=by
 induction c with
 | nil=>intro a b b' h1 h2;cases h1;cases h2;rfl
 | cons e l ih=>rintro a b b' ⟨_,_,h1⟩ ⟨_,_,h2⟩;exact ih h1 h2
theorem zoK {c c1 c2:List Ed} {e:Ed} (h:c ++ [e]=c1 ++ c2):c1=c ++ [e]∨∃ c3,c=c1 ++ c3:=by
 rcases List.append_eq_append_iff.1 h with ⟨a',h1,h2⟩ | ⟨c',h1,_⟩
 ·cases a' with
  | nil=>exact .inr ⟨[],by rw [h1];simp⟩
  | cons f a'' =>
   have:a''=[]∧c2=[]:=by
    cases a'' with
    | nil=>simp at h2;exact ⟨rfl,h2.2⟩
    | cons g b=>simp at h2
   obtain ⟨rfl,rfl⟩:=this
   simp at h2
   exact .inl (by rw [h1,h2])
 ·exact .inr ⟨c',h1⟩
theorem zme {E:List Ed} {Src:Nat→Prop} (hn:zcw E) {s:zdm×Bool} {e:Ed} (he:e∈E) (h:Inv E Src s.1):Inv E Src (rlF s e).1:=by
 intro v x hx
 have hle:=zAt s e
 unfold rlF at hx hle ⊢
 cases hu:s.1 e.u with
 | none =>
  simp only [hu] at hx ⊢
  obtain ⟨a,c,hc⟩:=h v x hx
  exact ⟨a,c,hc⟩
 | some y =>
  simp only [hu] at hx hle ⊢
  cases hl:ltO (y+e.w) (s.1 e.v) with
  | false =>
   simp only [hl,cond_false] at hx ⊢
   exact h v x hx
  | true =>
   simp only [hl,cond_true] at hx hle ⊢
   by_cases hv:v=e.v
   ·subst hv
    have hx':y+e.w=x:=by
     unfold zuL at hx;rw [if_pos rfl] at hx;exact Option.some.inj hx
    obtain ⟨a,c,hc⟩:=h e.u y hu
    have hnot:e.v ∉ nodes a c:=fun hm=>by
     obtain ⟨z,h1,h2⟩:=zuN hn he hc hm _ rfl
     rw [h1] at hl
     have:=of_decide_eq_true hl
     omega
    refine ⟨a,c ++ [e],hc.src,zgN.2 ⟨e.u,hc.ch,zii he⟩,by rw [zm5,zqq,← hc.wt];omega,?_,?_⟩
    ·show (a :: (c ++ [e]).map Ed.v).Nodup
     rw [List.map_append,← List.cons_append]
     refine List.nodup_append.2 ⟨hc.nd,by simp,fun p hp q hq=>?_⟩
     have:q=e.v:=by simpa using hq
     subst this
     exact fun e'=>hnot (e' ▸ hp)
    ·intro c1 c2 m h1 h2
     rcases zoK h1 with rfl | ⟨c3,h3⟩
     ·have : m = e.v := zCs h2 (zgN.2 ⟨e.u, hc.ch, zii he⟩)
      subst this
      intro z hz;cases hz
      refine ⟨x,hx,?_⟩
      rw [zm5,zqq,← hc.wt];omega
     ·exact zgq (hle m) (hc.pre c1 c3 m h3 h2)
   ·have hx':s.1 v=some x:=by
     unfold zuL at hx;rw [if_neg hv] at hx;exact hx
    obtain ⟨a,c,hc⟩:=h v x hx'
    exact ⟨a,c,zJU hc hle⟩
theorem zoL {E F:List Ed} {Src:Nat→Prop} (hn:zcw E) (hF:∀ e∈F,e∈E) {s:zdm×Bool} (h:Inv E Src s.1):Inv E Src (F.foldl rlF s).1:=by
 induction F generalizing s with
 | nil=>exact h
 | cons e l ih=>exact ih (fun e he=>hF e (List.mem_cons_of_mem _ he)) (zme hn (hF e (List.mem_cons_self ..)) h)
theorem zAw {E:List Ed} {Src:Nat→Prop} (hn:zcw E) (k:Nat) {d:zdm} (h:Inv E Src d):Inv E Src (rds E k d):=by
 induction k generalizing d with
 | zero=>exact h
 | succ k ih=>exact ih (zoL hn (fun _ h=>h) (s:=(d,false)) h)
structure Start (Src : Nat → Prop) (d : zdm) : Prop where
  only:∀ v x,d v=Option.some x→Src v∧x=0
  src:∀ v,Src v→d v=Option.some 0
theorem zij {E:List Ed} {Src:Nat→Prop} {d:zdm} (h:Start Src d):Inv E Src d:=fun v x hx=>by
 obtain ⟨h1,h2⟩:=h.only v x hx
 refine ⟨v,[],h1,rfl,h2,by simp [nodes],fun c1 c2 m e hc=>?_⟩
 have:c1=[]:=by
  cases c1 with
  | nil=>rfl
  | cons _ _=>cases e
 subst this
 cases hc
 rw [hx,h2]
 exact zgO _
theorem zuO {E:List Ed} {n:Nat} (hE:∀ e∈E,e.u < n∧e.v < n) {c:List Ed} : ∀ {a b:Nat},a < n→zhz E a c b→∀ x∈nodes a c,x < n:=by
  induction c with
  | nil => intro a b ha _ x hx; have : x = a := by simpa [nodes] using hx
           omega
  | cons e l ih =>
    rintro a b ha ⟨h1,h2,h3⟩ x hx
    rcases List.mem_cons.1 hx with rfl | hm
    · exact ha
    · exact ih (hE e h1).2 h3 x (by simpa [nodes] using hm)
theorem zG9 {E:List Ed} {n:Nat} {Src:Nat→Prop} (hE:∀ e∈E,e.u < n∧e.v < n) (hS:∀ a,Src a→a < n) {d:zdm} {v:Nat} {x:Int} {a:Nat} {c:List Ed} (h:Att E Src d v x a c):c.length+1≤n:=by
 have:=zqs n h.nd (zuO hE (hS a h.src) h.ch)
 rwa [zqu] at this
theorem zDy {E:List Ed} {n:Nat} {Src:Nat→Prop} (hn:zcw E) (hE:∀ e∈E,e.u < n∧e.v < n) (hS:∀ a,Src a→a < n) {d:zdm} (h0:Start Src d):Fix E (rds E (n - 1) d):=by
 intro e he x hx
 obtain ⟨a,c,hc⟩:=zAw hn (n - 1) (zij (E:=E) h0) e.u x hx
 by_cases hm:e.v∈nodes a c
 ·exact zuN hn he hc hm _ rfl
 ·have hlen:(c ++ [e]).length≤n - 1:=by
   have hnd:(nodes a (c ++ [e])).Nodup:=by
    show (a :: (c ++ [e]).map Ed.v).Nodup
    rw [List.map_append,← List.cons_append]
    refine List.nodup_append.2 ⟨hc.nd,by simp,fun p hp q hq=>?_⟩
    have:q=e.v:=by simpa using hq
    subst this
    exact fun e'=>hm (e' ▸ hp)
   have hch:zhz E a (c ++ [e]) e.v:=zgN.2 ⟨e.u,hc.ch,zii he⟩
   have:=zqs n hnd (zuO hE (hS a hc.src) hch)
   rw [zqu] at this
   omega
  have:=zJT (zgN.2 ⟨e.u,hc.ch,zii he⟩) (h0.src a hc.src) hlen _ rfl
  rw [zm5,zqq,← hc.wt] at this
  obtain ⟨z,h1,h2⟩:=this
  exact ⟨z,h1,by omega⟩
theorem zDz {E:List Ed} {f:Nat→Int} (h:∀ e∈E,f e.v≤f e.u+e.w) {c:List Ed} : ∀ {a b:Nat},zhz E a c b→f b≤f a+wt c:=by
 induction c with
 | nil=>intro a b hc;cases hc;show f a≤f a+0;omega
 | cons e l ih =>
  rintro a b ⟨h1,h2,h3⟩
  subst h2
  have:=ih h3
  have:=h e h1
  show f b≤f e.u+(e.w+wt l);omega
theorem zqv {E:List Ed} {f:Nat→Int} (h:∀ e∈E,f e.v≤f e.u+e.w):zcw E:=fun a c hc=>by
 have:=zDz h hc;omega
end Go.Pm
