/- Part 6 of what the proof rests on: a machine that runs functions of the program on pure values, proved sound; the functions that the law reaches, and what they compute. -/
import Derived.Test.YtkpjhhoafenogaaQ5
set_option linter.all false
namespace Go.Proofs
open Go Go.Pm
set_option maxRecDepth 100000
set_option linter.unusedVariables false
attribute [local irreducible] Go.Pm.vcFun Go.Pm.vc Go.Pm.vcIter
def rngI (a b:Int):List Int:=(List.range (b - a+1).toNat).map fun (i:Nat)=>a+i
def keys55 (gates:Sl Gate):List (List Int):=(rngI (gates.get 0).Low (gates.get 0).High).flatMap fun p=>(rngI (gates.get 1).Low (gates.get 1).High).map fun q=>[p,q]
abbrev T55:Tabs:=(((Tabs.nil.addF 85 ctr85).addF 92 ctr92).addF 93 ctr93)
theorem okT55:TabsOk Try.prog T55:=(((TabsOk.nil.addF ok85).addF ok92).addF ok93)
abbrev G55:Ctrs:=csm T55 (fun _ _=>[]) (fun _=>false)
def ann55:Ann:=⟨145,[(0,⟨[0],[],[],[],[],[],[]⟩),(1,⟨[0,18],[],[],[],[],[],[]⟩),(2,⟨[2,3,4],[],[],[],[],[],[]⟩),(3,⟨[0,5],[],[],[],[],[],[]⟩),(4,⟨[0,5,6],[],[],[],[],[],[]⟩),(5,⟨[0,5,6,24],[24],[],[],[],[],[]⟩),(6,⟨[0,5,6,24,26],[24],[],[],[],[],[]⟩),(7,⟨[0,5,6,8,24],[24],[],[],[],[],[]⟩),(8,⟨[0,5,6,8,24,35],[24],[],[],[],[],[]⟩),(9,⟨[0,5,6,24],[24],[],[],[],[],[]⟩),(10,⟨[0,5,6,9],[],[],[],[],[],[]⟩),(11,⟨[0,5,6,9,10],[],[],[],[],[],[]⟩),(12,⟨[0,5,6,9,10,46],[],[],[],[],[],[]⟩),(13,⟨[0,5,6,9,10],[],[],[],[],[],[]⟩),(14,⟨[0,5,6,9,10,11],[],[],[],[],[],[]⟩),(15,⟨[0,5,6,9,10,11,58],[],[],[],[],[],[]⟩),(16,⟨[0,5,6,9,10,11],[],[],[],[],[],[]⟩),(17,⟨[0,5,6,9,10,11,69],[],[],[],[],[],[]⟩),(18,⟨[0,5,6,9],[72],[],[],[],[],[]⟩),(19,⟨[0,5,6,9,12],[72],[],[],[],[],[]⟩),(20,⟨[0,5,6,9,12,76],[72],[],[],[],[],[]⟩),(21,⟨[0,5,6,9,12],[72],[],[],[],[],[]⟩),(22,⟨[0,5,6,9,12,13,14],[72],[],[],[],[],[]⟩),(23,⟨[0,5,6,9,12,13,14,15],[72],[],[],[],[],[]⟩),(24,⟨[0,5,6,9,12,13,14,15,100],[72],[],[],[],[],[]⟩),(25,⟨[0,5,6,9,12,13,14,15],[72],[],[],[],[],[]⟩),(26,⟨[0,5,6,9,12,13,14,15,138],[72],[],[],[],[],[]⟩),(27,⟨[0,5,6,9,12],[72],[],[],[],[],[]⟩),(28,⟨[2,3,4],[72],[],[],[],[],[]⟩)],
  [(6,⟨[0,5,6,24],[24],[],[],[],[],[]⟩),(12,⟨[0,5,6,9,10],[],[],[],[],[],[]⟩),(15,⟨[0,5,6,9,10,11],[],[],[],[],[],[]⟩),(20,⟨[0,5,6,9,12],[72],[],[],[],[],[]⟩),(24,⟨[0,5,6,9,12,13,14,15],[72],[],[],[],[],[]⟩)],
  [(2,⟨[0,18],[],[],[],[],[],[]⟩),(3,⟨[0],[],[],[],[],[],[]⟩),(4,⟨[0,5],[],[],[],[],[],[]⟩),(10,⟨[0,5,6],[],[],[],[],[],[]⟩),(19,⟨[0,5,6,9],[72],[(9,72,3,fun _=>enc_3 default)],[],[],[],[]⟩),(27,⟨[0,5,6,9,12,13,14,15,138],[72],[],[],[],[],[]⟩)],
  [],[]⟩
def f55_g0 (gates:(Sl Gate)) (t18v0:Bool):St:=⟨[(0,.one (.c (.p (.sl gates.len 3 (fun i=>enc_55 (gates.get i)))))),(18,.one (.c (.p (.bool t18v0))))],[],[]⟩
def f55_at0 (K:List PA→Prop) (gates:(Sl Gate)) (t18v0:Bool):Prop:=vc Try.prog G55 ann55 (cdF Try.f55 [1,0,0,1]) (sqK Try.prog G55 ann55 (cdF Try.f55 [1,0,1]) (scopeK (bodyK Try.prog Try.f55 K))) (f55_g0 gates t18v0)
def f55_g1 (gates:(Sl Gate)):St:=⟨[(0,.one (.c (.p (.sl gates.len 3 (fun i=>enc_55 (gates.get i))))))],[],[]⟩
def f55_at1 (K:List PA→Prop) (gates:(Sl Gate)):Prop:=vc Try.prog G55 ann55 (cdF Try.f55 [1,0,1]) (scopeK (bodyK Try.prog Try.f55 K)) (f55_g1 gates)
def f55_g2 (gates:(Sl Gate)) (tablev2_n:Nat) (tablev2_g:Nat→List PV):St:=⟨[(0,.one (.c (.p (.sl gates.len 3 (fun i=>enc_55 (gates.get i)))))),(5,.one (.c (.p (.sl tablev2_n 1 tablev2_g))))],[],[]⟩
def f55_at2 (K:List PA→Prop) (gates:(Sl Gate)) (tablev2_n:Nat) (tablev2_g:Nat→List PV):Prop:=vc Try.prog G55 ann55 (cdF Try.f55 [1,0,1,1]) (scopeK (bodyK Try.prog Try.f55 K)) (f55_g2 gates tablev2_n tablev2_g)
def f55_g3 (gates:(Sl Gate)) (tablev2:(Sl Mp)) (seen24v3:(List (List Int))) (kinkv3:Int):St:=⟨[(0,.one (.c (.p (.sl gates.len 3 (fun i=>enc_55 (gates.get i)))))),(5,.one (.c (.p (.sl tablev2.len 1 (fun i=>enc_129 (tablev2.get i)))))),(6,.one (.c (.p (.int .i64 kinkv3)))),(24,.one (.c (.ptr 24 0)))],[(24,.mit (true,2,false,[some .i64]) ((tablev2.get 0).n) ((tablev2.get 0).F) seen24v3)],[]⟩
def f55_at3 (K:List PA→Prop) (gates:(Sl Gate)) (tablev2:(Sl Mp)) (seen24v3:(List (List Int))) (kinkv3:Int):Prop:=vc Try.prog G55 ann55 (cdF Try.f55 [1,0,1,1,1,0,1,0]) (blockK 0 (sqK Try.prog G55 ann55 (cdF Try.f55 [1,0,1,1,1,1]) (scopeK (bodyK Try.prog Try.f55 K)))) (f55_g3 gates tablev2 seen24v3 kinkv3)
def f55_g4 (gates:(Sl Gate)) (tablev2:(Sl Mp)) (kinkv4:Int):St:=⟨[(0,.one (.c (.p (.sl gates.len 3 (fun i=>enc_55 (gates.get i)))))),(5,.one (.c (.p (.sl tablev2.len 1 (fun i=>enc_129 (tablev2.get i)))))),(6,.one (.c (.p (.int .i64 kinkv4))))],[],[]⟩
def f55_at4 (K:List PA→Prop) (gates:(Sl Gate)) (tablev2:(Sl Mp)) (kinkv4:Int):Prop:=vc Try.prog G55 ann55 (cdF Try.f55 [1,0,1,1,1,1]) (scopeK (bodyK Try.prog Try.f55 K)) (f55_g4 gates tablev2 kinkv4)
def f55_g5 (gates:(Sl Gate)) (tablev2:(Sl Mp)) (kinkv5:Int) (pv5:Int):St:=⟨[(0,.one (.c (.p (.sl gates.len 3 (fun i=>enc_55 (gates.get i)))))),(5,.one (.c (.p (.sl tablev2.len 1 (fun i=>enc_129 (tablev2.get i)))))),(6,.one (.c (.p (.int .i64 kinkv5)))),(9,.one (.c (.p (.nils)))),(10,.one (.c (.p (.int .i64 pv5))))],[],[]⟩
def f55_at5 (K:List PA→Prop) (gates:(Sl Gate)) (tablev2:(Sl Mp)) (kinkv5:Int) (pv5:Int):Prop:=vc Try.prog G55 ann55 (cdF Try.f55 [1,0,1,1,1,1,1,1,0,1,0]) (blockK 2 (sqK Try.prog G55 ann55 (cdF Try.f55 [1,0,1,1,1,1,1,1,1]) (scopeK (bodyK Try.prog Try.f55 K)))) (f55_g5 gates tablev2 kinkv5 pv5)
def f55_g6 (gates:(Sl Gate)) (tablev2:(Sl Mp)) (kinkv6:Int) (pv6:Int) (qv6:Int):St:=⟨[(0,.one (.c (.p (.sl gates.len 3 (fun i=>enc_55 (gates.get i)))))),(5,.one (.c (.p (.sl tablev2.len 1 (fun i=>enc_129 (tablev2.get i)))))),(6,.one (.c (.p (.int .i64 kinkv6)))),(9,.one (.c (.p (.nils)))),(10,.one (.c (.p (.int .i64 pv6)))),(11,.one (.c (.p (.int .i64 qv6))))],[],[]⟩
def f55_at6 (K:List PA→Prop) (X5:St→Prop) (gates:(Sl Gate)) (tablev2:(Sl Mp)) (kinkv6:Int) (pv6:Int) (qv6:Int):Prop:=vc Try.prog G55 ann55 (cdF Try.f55 [1,0,1,1,1,1,1,1,0,1,0,0,1,0,0,1,0]) (blockK 4 (blockK 3 (sqK Try.prog G55 ann55 (cdF Try.f55 [1,0,1,1,1,1,1,1,0,1,0,0,1,1]) (loopK Try.prog ann55 12 X5 (blockK 2 (sqK Try.prog G55 ann55 (cdF Try.f55 [1,0,1,1,1,1,1,1,1]) (scopeK (bodyK Try.prog Try.f55 K)))))))) (f55_g6 gates tablev2 kinkv6 pv6 qv6)
def f55_g7 (gates:(Sl Gate)) (tablev2:(Sl Mp)) (kinkv7:Int) (v72v7_n:Nat) (v72v7_g:Nat→List PV):St:=⟨[(0,.one (.c (.p (.sl gates.len 3 (fun i=>enc_55 (gates.get i)))))),(5,.one (.c (.p (.sl tablev2.len 1 (fun i=>enc_129 (tablev2.get i)))))),(6,.one (.c (.p (.int .i64 kinkv7)))),(9,.one (.c (.vec 72)))],[(72,.vec 3 1 8 v72v7_n v72v7_g)],[]⟩
def f55_at7 (K:List PA→Prop) (gates:(Sl Gate)) (tablev2:(Sl Mp)) (kinkv7:Int) (v72v7_n:Nat) (v72v7_g:Nat→List PV):Prop:=vc Try.prog G55 ann55 (cdF Try.f55 [1,0,1,1,1,1,1,1,1]) (scopeK (bodyK Try.prog Try.f55 K)) (f55_g7 gates tablev2 kinkv7 v72v7_n v72v7_g)
def f55_g8 (gates:(Sl Gate)) (tablev2:(Sl Mp)) (kinkv8:Int) (iv8:Int) (v72v8_n:Nat) (v72v8_g:Nat→List PV):St:=⟨[(0,.one (.c (.p (.sl gates.len 3 (fun i=>enc_55 (gates.get i)))))),(5,.one (.c (.p (.sl tablev2.len 1 (fun i=>enc_129 (tablev2.get i)))))),(6,.one (.c (.p (.int .i64 kinkv8)))),(9,.one (.c (.vec 72))),(12,.one (.c (.p (.int .i64 iv8))))],[(72,.vec 3 1 8 v72v8_n v72v8_g)],[]⟩
def f55_at8 (K:List PA→Prop) (gates:(Sl Gate)) (tablev2:(Sl Mp)) (kinkv8:Int) (iv8:Int) (v72v8_n:Nat) (v72v8_g:Nat→List PV):Prop:=vc Try.prog G55 ann55 (cdF Try.f55 [1,0,1,1,1,1,1,1,1,0,1,0]) (blockK 6 (sqK Try.prog G55 ann55 (cdF Try.f55 [1,0,1,1,1,1,1,1,1,1]) (scopeK (bodyK Try.prog Try.f55 K)))) (f55_g8 gates tablev2 kinkv8 iv8 v72v8_n v72v8_g)
def f55_g9 (gates:(Sl Gate)) (tablev2:(Sl Mp)) (kinkv9:Int) (iv9:Int) (pv9:Int) (qv9:Int) (rv9:Int) (v72v9_n:Nat) (v72v9_g:Nat→List PV):St:=⟨[(0,.one (.c (.p (.sl gates.len 3 (fun i=>enc_55 (gates.get i)))))),(5,.one (.c (.p (.sl tablev2.len 1 (fun i=>enc_129 (tablev2.get i)))))),(6,.one (.c (.p (.int .i64 kinkv9)))),(9,.one (.c (.vec 72))),(12,.one (.c (.p (.int .i64 iv9)))),(13,.one (.c (.p (.int .i64 pv9)))),(14,.one (.c (.p (.int .i64 qv9)))),(15,.one (.c (.p (.int .i64 rv9))))],[(72,.vec 3 1 8 v72v9_n v72v9_g)],[]⟩
def f55_at9 (K:List PA→Prop) (X8:St→Prop) (gates:(Sl Gate)) (tablev2:(Sl Mp)) (kinkv9:Int) (iv9:Int) (pv9:Int) (qv9:Int) (rv9:Int) (v72v9_n:Nat) (v72v9_g:Nat→List PV):Prop:=vc Try.prog G55 ann55 (cdF Try.f55 [1,0,1,1,1,1,1,1,1,0,1,0,0,1,0,0,1,1,0]) (blockK 8 (blockK 7 (sqK Try.prog G55 ann55 (cdF Try.f55 [1,0,1,1,1,1,1,1,1,0,1,0,0,1,1]) (loopK Try.prog ann55 20 X8 (blockK 6 (sqK Try.prog G55 ann55 (cdF Try.f55 [1,0,1,1,1,1,1,1,1,1]) (scopeK (bodyK Try.prog Try.f55 K)))))))) (f55_g9 gates tablev2 kinkv9 iv9 pv9 qv9 rv9 v72v9_n v72v9_g)
def f55_g10 (gates:(Sl Gate)) (tablev2:(Sl Mp)) (kinkv10:Int) (iv10:Int) (pv10:Int) (qv10:Int) (rv10:Int) (t138v10:Bool) (v72v10_n:Nat) (v72v10_g:Nat→List PV):St:=⟨[(0,.one (.c (.p (.sl gates.len 3 (fun i=>enc_55 (gates.get i)))))),(5,.one (.c (.p (.sl tablev2.len 1 (fun i=>enc_129 (tablev2.get i)))))),(6,.one (.c (.p (.int .i64 kinkv10)))),(9,.one (.c (.vec 72))),(12,.one (.c (.p (.int .i64 iv10)))),(13,.one (.c (.p (.int .i64 pv10)))),(14,.one (.c (.p (.int .i64 qv10)))),(15,.one (.c (.p (.int .i64 rv10)))),(138,.one (.c (.p (.bool t138v10))))],[(72,.vec 3 1 8 v72v10_n v72v10_g)],[]⟩
def f55_at10 (K:List PA→Prop) (X8:St→Prop) (X9:St→Prop) (gates:(Sl Gate)) (tablev2:(Sl Mp)) (kinkv10:Int) (iv10:Int) (pv10:Int) (qv10:Int) (rv10:Int) (t138v10:Bool) (v72v10_n:Nat) (v72v10_g:Nat→List PV):Prop:=vc Try.prog G55 ann55 (cdF Try.f55 [1,0,1,1,1,1,1,1,1,0,1,0,0,1,0,0,1,1,0,0,1,0,0,1]) (blockK 9 (sqK Try.prog G55 ann55 (cdF Try.f55 [1,0,1,1,1,1,1,1,1,0,1,0,0,1,0,0,1,1,0,0,1,1]) (loopK Try.prog ann55 24 X9 (blockK 8 (blockK 7 (sqK Try.prog G55 ann55 (cdF Try.f55 [1,0,1,1,1,1,1,1,1,0,1,0,0,1,1]) (loopK Try.prog ann55 20 X8 (blockK 6 (sqK Try.prog G55 ann55 (cdF Try.f55 [1,0,1,1,1,1,1,1,1,1]) (scopeK (bodyK Try.prog Try.f55 K))))))))))) (f55_g10 gates tablev2 kinkv10 iv10 pv10 qv10 rv10 t138v10 v72v10_n v72v10_g)
theorem f55_top (gates : (Sl Gate)) (K : List PA → Prop) :
  vcFun Try.prog G55 ann55 55 [.one (.sl gates.len 3 (fun i=>enc_55 (gates.get i)))] K =
  ((IsE enc_55 3 3 (fun i=>enc_55 (gates.get i))∧(p92 gates=true)) ∧
  (f55_at0 K gates (!(s92 gates)))):=by kernel_rfl
theorem f55_eq0 (K : List PA → Prop) (gates : (Sl Gate)) (t18v0 : Bool) :
  f55_at0 K gates t18v0 =
  (condP t18v0
   (K [.one (.nils),.one (.int .i64 (0:Int)),.one (.int .i64 (2:Int))])
   (f55_at1 K gates)):=by kernel_rfl
theorem f55_eq1 (K : List PA → Prop) (gates : (Sl Gate)) :
  f55_at1 K gates =
  ((IsE enc_55 3 3 (fun i=>enc_55 (gates.get i))∧(p93 gates=true)) ∧
  (f55_at2 K gates ((s93 gates).len) (fun i=>enc_129 ((s93 gates).get i)))):=by kernel_rfl
theorem f55_eq2 (K : List PA → Prop) (gates : (Sl Gate)) (tablev2 : (Sl Mp)) :
  f55_at2 K gates tablev2.len (fun i=>enc_129 (tablev2.get i)) =
  (((0≤(0:Int)∧(0:Int) < (tablev2.len:Int))) ∧
  (f55_at3 K gates tablev2 ([]) (-1:Int))):=by kernel_rfl
def f55_step3 (K:List PA→Prop) (X3:St→Prop) (gates:(Sl Gate)) (tablev2:(Sl Mp)) (seen24v3:(List (List Int))) (kinkv3:Int):Prop :=
  (FinM 2 ((tablev2.get 0).n) ((tablev2.get 0).F) →
  ((∀ c:List Int,c.length=2→((tablev2.get 0).F) c ≠ none→c∈seen24v3) →
  (f55_at4 K gates tablev2 kinkv3))∧∀ k24_0 k24_1:Int,((tablev2.get 0).F) [k24_0,k24_1] ≠ none→[k24_0,k24_1] ∉ seen24v3 →
  (condP (decide (kinkv3 < (0:Int)))
    (X3 (f55_g3 gates tablev2 ([k24_0,k24_1] :: seen24v3) (nthO (((tablev2.get 0).F) [k24_0,k24_1]) 0)))
    (condP (decide ((nthO (((tablev2.get 0).F) [k24_0, k24_1]) 0) < kinkv3))
     (X3 (f55_g3 gates tablev2 ([k24_0,k24_1] :: seen24v3) (nthO (((tablev2.get 0).F) [k24_0,k24_1]) 0)))
     (X3 (f55_g3 gates tablev2 ([k24_0,k24_1] :: seen24v3) kinkv3)))))
theorem f55_stepeq3 (K : List PA → Prop) (X3 : St → Prop) (gates : (Sl Gate)) (tablev2 : (Sl Mp)) (seen24v3 : (List (List Int))) (kinkv3 : Int) :
  vc Try.prog G55 ann55 (cd (cdF Try.f55 [1,0,1,1,1,0,1,0]) [0]) (loopK Try.prog ann55 6 X3 (blockK 0 (sqK Try.prog G55 ann55 (cdF Try.f55 [1,0,1,1,1,1]) (scopeK (bodyK Try.prog Try.f55 K))))) (f55_g3 gates tablev2 seen24v3 kinkv3) =
  f55_step3 K X3 gates tablev2 seen24v3 kinkv3:=by kernel_rfl
theorem f55_loop3 (K : List PA → Prop) (gates : (Sl Gate)) (tablev2 : (Sl Mp)) (seen24v3 : (List (List Int))) (kinkv3 : Int)
  (h:∀ X3:St→Prop,(∀ (seen24v3:(List (List Int))) (kinkv3:Int),f55_step3 K X3 gates tablev2 seen24v3 kinkv3→X3 (f55_g3 gates tablev2 seen24v3 kinkv3))→X3 (f55_g3 gates tablev2 seen24v3 kinkv3)) :
  f55_at3 K gates tablev2 seen24v3 kinkv3:=by
  have e:f55_at3 K gates tablev2 seen24v3 kinkv3=(∀ X:St→Prop,(∀ s,vc Try.prog G55 ann55 (cd (cdF Try.f55 [1,0,1,1,1,0,1,0]) [0]) (loopK Try.prog ann55 6 X (blockK 0 (sqK Try.prog G55 ann55 (cdF Try.f55 [1,0,1,1,1,1]) (scopeK (bodyK Try.prog Try.f55 K))))) s→X s)→X (f55_g3 gates tablev2 seen24v3 kinkv3)):=by kernel_rfl
  refine ofEq e ?_
  intro X hX
  refine h X ?_
  intro seen24v3 kinkv3 hs
  refine hX _ ?_
  have e2:=f55_stepeq3 K X gates tablev2 seen24v3 kinkv3
  rw [e2]
  exact hs
theorem f55_eq4 (K : List PA → Prop) (gates : (Sl Gate)) (tablev2 : (Sl Mp)) (kinkv4 : Int) :
  f55_at4 K gates tablev2 kinkv4 =
  (((0≤(0:Int)∧(0:Int) < (gates.len:Int))) ∧
  (f55_at5 K gates tablev2 kinkv4 ((gates.get 0).Low))):=by kernel_rfl
def f55_step5 (K:List PA→Prop) (X5:St→Prop) (gates:(Sl Gate)) (tablev2:(Sl Mp)) (kinkv5:Int) (pv5:Int):Prop :=
  (((0≤(0:Int)∧(0:Int) < (gates.len:Int))) ∧
  (condP (decide (pv5 ≤ (gates.get 0).High))
   (((0≤(1:Int)∧(1:Int) < (gates.len:Int))) ∧
   (f55_at6 K X5 gates tablev2 kinkv5 pv5 ((gates.get 1).Low)))
   (f55_at7 K gates tablev2 kinkv5 0 (fun i=>enc_3 ((fun _=>default) i)))))
theorem f55_stepeq5 (K : List PA → Prop) (X5 : St → Prop) (gates : (Sl Gate)) (tablev2 : (Sl Mp)) (kinkv5 : Int) (pv5 : Int) :
  vc Try.prog G55 ann55 (cd (cdF Try.f55 [1,0,1,1,1,1,1,1,0,1,0]) [0]) (loopK Try.prog ann55 12 X5 (blockK 2 (sqK Try.prog G55 ann55 (cdF Try.f55 [1,0,1,1,1,1,1,1,1]) (scopeK (bodyK Try.prog Try.f55 K))))) (f55_g5 gates tablev2 kinkv5 pv5) =
  f55_step5 K X5 gates tablev2 kinkv5 pv5:=by kernel_rfl
theorem f55_loop5 (K : List PA → Prop) (gates : (Sl Gate)) (tablev2 : (Sl Mp)) (kinkv5 : Int) (pv5 : Int)
  (h:∀ X5:St→Prop,(∀ (kinkv5:Int) (pv5:Int),f55_step5 K X5 gates tablev2 kinkv5 pv5→X5 (f55_g5 gates tablev2 kinkv5 pv5))→X5 (f55_g5 gates tablev2 kinkv5 pv5)) :
  f55_at5 K gates tablev2 kinkv5 pv5:=by
  have e:f55_at5 K gates tablev2 kinkv5 pv5=(∀ X:St→Prop,(∀ s,vc Try.prog G55 ann55 (cd (cdF Try.f55 [1,0,1,1,1,1,1,1,0,1,0]) [0]) (loopK Try.prog ann55 12 X (blockK 2 (sqK Try.prog G55 ann55 (cdF Try.f55 [1,0,1,1,1,1,1,1,1]) (scopeK (bodyK Try.prog Try.f55 K))))) s→X s)→X (f55_g5 gates tablev2 kinkv5 pv5)):=by kernel_rfl
  refine ofEq e ?_
  intro X hX
  refine h X ?_
  intro kinkv5 pv5 hs
  refine hX _ ?_
  have e2:=f55_stepeq5 K X gates tablev2 kinkv5 pv5
  rw [e2]
  exact hs
def f55_step6 (K:List PA→Prop) (X5:St→Prop) (X6:St→Prop) (gates:(Sl Gate)) (tablev2:(Sl Mp)) (kinkv6:Int) (pv6:Int) (qv6:Int):Prop :=
  (((0≤(1:Int)∧(1:Int) < (gates.len:Int))) ∧
  (condP (decide (qv6 ≤ (gates.get 1).High))
   (((0≤(0:Int)∧(0:Int) < (tablev2.len:Int))) ∧
   (condP ((nthO (((tablev2.get 0).F) [pv6, qv6]) 0) == kinkv6)
    (f55_at7 K gates tablev2 kinkv6 2 (getL [(enc_3 pv6),(enc_3 qv6)]))
    (X6 (f55_g6 gates tablev2 kinkv6 pv6 (w64 (qv6+(1:Int)))))))
   (X5 (f55_g5 gates tablev2 kinkv6 (w64 (pv6+(1:Int)))))))
theorem f55_stepeq6 (K : List PA → Prop) (X5 : St → Prop) (X6 : St → Prop) (gates : (Sl Gate)) (tablev2 : (Sl Mp)) (kinkv6 : Int) (pv6 : Int) (qv6 : Int) :
  vc Try.prog G55 ann55 (cd (cdF Try.f55 [1,0,1,1,1,1,1,1,0,1,0,0,1,0,0,1,0]) [0]) (loopK Try.prog ann55 15 X6 (blockK 4 (blockK 3 (sqK Try.prog G55 ann55 (cdF Try.f55 [1,0,1,1,1,1,1,1,0,1,0,0,1,1]) (loopK Try.prog ann55 12 X5 (blockK 2 (sqK Try.prog G55 ann55 (cdF Try.f55 [1,0,1,1,1,1,1,1,1]) (scopeK (bodyK Try.prog Try.f55 K))))))))) (f55_g6 gates tablev2 kinkv6 pv6 qv6) =
  f55_step6 K X5 X6 gates tablev2 kinkv6 pv6 qv6:=by kernel_rfl
theorem f55_loop6 (K : List PA → Prop) (X5 : St → Prop) (gates : (Sl Gate)) (tablev2 : (Sl Mp)) (kinkv6 : Int) (pv6 : Int) (qv6 : Int)
  (h:∀ X6:St→Prop,(∀ (kinkv6:Int) (pv6:Int) (qv6:Int),f55_step6 K X5 X6 gates tablev2 kinkv6 pv6 qv6→X6 (f55_g6 gates tablev2 kinkv6 pv6 qv6))→X6 (f55_g6 gates tablev2 kinkv6 pv6 qv6)) :
  f55_at6 K X5 gates tablev2 kinkv6 pv6 qv6:=by
  have e:f55_at6 K X5 gates tablev2 kinkv6 pv6 qv6=(∀ X:St→Prop,(∀ s,vc Try.prog G55 ann55 (cd (cdF Try.f55 [1,0,1,1,1,1,1,1,0,1,0,0,1,0,0,1,0]) [0]) (loopK Try.prog ann55 15 X (blockK 4 (blockK 3 (sqK Try.prog G55 ann55 (cdF Try.f55 [1,0,1,1,1,1,1,1,0,1,0,0,1,1]) (loopK Try.prog ann55 12 X5 (blockK 2 (sqK Try.prog G55 ann55 (cdF Try.f55 [1,0,1,1,1,1,1,1,1]) (scopeK (bodyK Try.prog Try.f55 K))))))))) s→X s)→X (f55_g6 gates tablev2 kinkv6 pv6 qv6)):=by kernel_rfl
  refine ofEq e ?_
  intro X hX
  refine h X ?_
  intro kinkv6 pv6 qv6 hs
  refine hX _ ?_
  have e2:=f55_stepeq6 K X5 X gates tablev2 kinkv6 pv6 qv6
  rw [e2]
  exact hs
theorem f55_eq7 (K : List PA → Prop) (gates : (Sl Gate)) (tablev2 : (Sl Mp)) (kinkv7 : Int) (v72v7 : (Sl Int)) :
  f55_at7 K gates tablev2 kinkv7 v72v7.len (fun i=>enc_3 (v72v7.get i)) =
  (f55_at8 K gates tablev2 kinkv7 (2:Int) v72v7.len (fun i=>enc_3 (v72v7.get i))):=by kernel_rfl
def f55_step8 (K:List PA→Prop) (X8:St→Prop) (gates:(Sl Gate)) (tablev2:(Sl Mp)) (kinkv8:Int) (iv8:Int) (v72v8:(Sl Int)):Prop :=
  (condP (decide (iv8 < (gates.len : Int)))
   (((0≤(w64 (iv8 - (2:Int)))∧(w64 (iv8 - (2:Int))) < (v72v8.len:Int))) ∧
   ((((w64 (iv8 - (2:Int))).toNat < v72v8.len)) ∧
   (((0≤(w64 (iv8 - (1:Int)))∧(w64 (iv8 - (1:Int))) < (v72v8.len:Int))) ∧
   ((((w64 (iv8 - (1:Int))).toNat < v72v8.len)) ∧
   (((0≤iv8∧iv8 < (gates.len:Int))) ∧
   (f55_at9 K X8 gates tablev2 kinkv8 iv8 (v72v8.get ((w64 (iv8 - (2:Int))).toNat)) (v72v8.get ((w64 (iv8 - (1:Int))).toNat)) ((gates.get iv8.toNat).Low) v72v8.len (fun i=>enc_3 (v72v8.get i))))))))
   (K [.one (.sl v72v8.len 1 (fun i=>enc_3 (v72v8.get i))),.one (.int .i64 kinkv8),.one (.int .i64 (0:Int))]))
theorem f55_stepeq8 (K : List PA → Prop) (X8 : St → Prop) (gates : (Sl Gate)) (tablev2 : (Sl Mp)) (kinkv8 : Int) (iv8 : Int) (v72v8 : (Sl Int)) :
  vc Try.prog G55 ann55 (cd (cdF Try.f55 [1,0,1,1,1,1,1,1,1,0,1,0]) [0]) (loopK Try.prog ann55 20 X8 (blockK 6 (sqK Try.prog G55 ann55 (cdF Try.f55 [1,0,1,1,1,1,1,1,1,1]) (scopeK (bodyK Try.prog Try.f55 K))))) (f55_g8 gates tablev2 kinkv8 iv8 v72v8.len (fun i=>enc_3 (v72v8.get i))) =
  f55_step8 K X8 gates tablev2 kinkv8 iv8 v72v8:=by kernel_rfl
theorem f55_loop8 (K : List PA → Prop) (gates : (Sl Gate)) (tablev2 : (Sl Mp)) (kinkv8 : Int) (iv8 : Int) (v72v8_n : Nat) (v72v8_g : Nat → List PV)
  (h:∀ X8:St→Prop,(∀ (kinkv8:Int) (iv8:Int) (v72v8:(Sl Int)),f55_step8 K X8 gates tablev2 kinkv8 iv8 v72v8→X8 (f55_g8 gates tablev2 kinkv8 iv8 v72v8.len (fun i=>enc_3 (v72v8.get i))))→X8 (f55_g8 gates tablev2 kinkv8 iv8 v72v8_n v72v8_g)) :
  f55_at8 K gates tablev2 kinkv8 iv8 v72v8_n v72v8_g:=by
  have e:f55_at8 K gates tablev2 kinkv8 iv8 v72v8_n v72v8_g=(∀ X:St→Prop,(∀ s,vc Try.prog G55 ann55 (cd (cdF Try.f55 [1,0,1,1,1,1,1,1,1,0,1,0]) [0]) (loopK Try.prog ann55 20 X (blockK 6 (sqK Try.prog G55 ann55 (cdF Try.f55 [1,0,1,1,1,1,1,1,1,1]) (scopeK (bodyK Try.prog Try.f55 K))))) s→X s)→X (f55_g8 gates tablev2 kinkv8 iv8 v72v8_n v72v8_g)):=by kernel_rfl
  refine ofEq e ?_
  intro X hX
  refine h X ?_
  intro kinkv8 iv8 v72v8 hs
  refine hX _ ?_
  have e2:=f55_stepeq8 K X gates tablev2 kinkv8 iv8 v72v8
  rw [e2]
  exact hs
def f55_step9 (K:List PA→Prop) (X8:St→Prop) (X9:St→Prop) (gates:(Sl Gate)) (tablev2:(Sl Mp)) (kinkv9:Int) (iv9:Int) (pv9:Int) (qv9:Int) (rv9:Int) (v72v9:(Sl Int)):Prop :=
  (((0≤iv9∧iv9 < (gates.len:Int))) ∧
  (condP (decide (rv9 ≤ (gates.get iv9.toNat).High))
   (((0≤(w64 (iv9 - (2:Int)))∧(w64 (iv9 - (2:Int))) < (gates.len:Int))) ∧
   (((0≤(w64 (iv9 - (1:Int)))∧(w64 (iv9 - (1:Int))) < (gates.len:Int))) ∧
   (((0≤iv9∧iv9 < (gates.len:Int))) ∧
   (((p85 ((gates.get ((w64 (iv9 - (2:Int))).toNat)).Z) ((gates.get ((w64 (iv9 - (1:Int))).toNat)).Z) ((gates.get iv9.toNat).Z) pv9 qv9 rv9=true)) ∧
   (condP (decide ((s85 ((gates.get ((w64 (iv9 - (2:Int))).toNat)).Z) ((gates.get ((w64 (iv9 - (1:Int))).toNat)).Z) ((gates.get iv9.toNat).Z) pv9 qv9 rv9) ≤ kinkv9))
    (((0≤(w64 (iv9 - (1:Int)))∧(w64 (iv9 - (1:Int))) < (tablev2.len:Int))) ∧
    (f55_at10 K X8 X9 gates tablev2 kinkv9 iv9 pv9 qv9 rv9 (decide ((nthO (((tablev2.get ((w64 (iv9 - (1:Int))).toNat)).F) [qv9,rv9]) 0)≤kinkv9)) v72v9.len (fun i=>enc_3 (v72v9.get i))))
    (f55_at10 K X8 X9 gates tablev2 kinkv9 iv9 pv9 qv9 rv9 false v72v9.len (fun i=>enc_3 (v72v9.get i))))))))
   (X8 (f55_g8 gates tablev2 kinkv9 (w64 (iv9+(1:Int))) v72v9.len (fun i=>enc_3 (v72v9.get i))))))
theorem f55_stepeq9 (K : List PA → Prop) (X8 : St → Prop) (X9 : St → Prop) (gates : (Sl Gate)) (tablev2 : (Sl Mp)) (kinkv9 : Int) (iv9 : Int) (pv9 : Int) (qv9 : Int) (rv9 : Int) (v72v9 : (Sl Int)) :
  vc Try.prog G55 ann55 (cd (cdF Try.f55 [1,0,1,1,1,1,1,1,1,0,1,0,0,1,0,0,1,1,0]) [0]) (loopK Try.prog ann55 24 X9 (blockK 8 (blockK 7 (sqK Try.prog G55 ann55 (cdF Try.f55 [1,0,1,1,1,1,1,1,1,0,1,0,0,1,1]) (loopK Try.prog ann55 20 X8 (blockK 6 (sqK Try.prog G55 ann55 (cdF Try.f55 [1,0,1,1,1,1,1,1,1,1]) (scopeK (bodyK Try.prog Try.f55 K))))))))) (f55_g9 gates tablev2 kinkv9 iv9 pv9 qv9 rv9 v72v9.len (fun i=>enc_3 (v72v9.get i))) =
  f55_step9 K X8 X9 gates tablev2 kinkv9 iv9 pv9 qv9 rv9 v72v9:=by kernel_rfl
theorem f55_loop9 (K : List PA → Prop) (X8 : St → Prop) (gates : (Sl Gate)) (tablev2 : (Sl Mp)) (kinkv9 : Int) (iv9 : Int) (pv9 : Int) (qv9 : Int) (rv9 : Int) (v72v9_n : Nat) (v72v9_g : Nat → List PV)
  (h:∀ X9:St→Prop,(∀ (kinkv9:Int) (iv9:Int) (pv9:Int) (qv9:Int) (rv9:Int) (v72v9:(Sl Int)),f55_step9 K X8 X9 gates tablev2 kinkv9 iv9 pv9 qv9 rv9 v72v9→X9 (f55_g9 gates tablev2 kinkv9 iv9 pv9 qv9 rv9 v72v9.len (fun i=>enc_3 (v72v9.get i))))→X9 (f55_g9 gates tablev2 kinkv9 iv9 pv9 qv9 rv9 v72v9_n v72v9_g)) :
  f55_at9 K X8 gates tablev2 kinkv9 iv9 pv9 qv9 rv9 v72v9_n v72v9_g:=by
  have e:f55_at9 K X8 gates tablev2 kinkv9 iv9 pv9 qv9 rv9 v72v9_n v72v9_g=(∀ X:St→Prop,(∀ s,vc Try.prog G55 ann55 (cd (cdF Try.f55 [1,0,1,1,1,1,1,1,1,0,1,0,0,1,0,0,1,1,0]) [0]) (loopK Try.prog ann55 24 X (blockK 8 (blockK 7 (sqK Try.prog G55 ann55 (cdF Try.f55 [1,0,1,1,1,1,1,1,1,0,1,0,0,1,1]) (loopK Try.prog ann55 20 X8 (blockK 6 (sqK Try.prog G55 ann55 (cdF Try.f55 [1,0,1,1,1,1,1,1,1,1]) (scopeK (bodyK Try.prog Try.f55 K))))))))) s→X s)→X (f55_g9 gates tablev2 kinkv9 iv9 pv9 qv9 rv9 v72v9_n v72v9_g)):=by kernel_rfl
  refine ofEq e ?_
  intro X hX
  refine h X ?_
  intro kinkv9 iv9 pv9 qv9 rv9 v72v9 hs
  refine hX _ ?_
  have e2:=f55_stepeq9 K X8 X gates tablev2 kinkv9 iv9 pv9 qv9 rv9 v72v9
  rw [e2]
  exact hs
theorem f55_eq10 (K : List PA → Prop) (X8 : St → Prop) (X9 : St → Prop) (gates : (Sl Gate)) (tablev2 : (Sl Mp)) (kinkv10 : Int) (iv10 : Int) (pv10 : Int) (qv10 : Int) (rv10 : Int) (t138v10 : Bool) (v72v10 : (Sl Int)) :
  f55_at10 K X8 X9 gates tablev2 kinkv10 iv10 pv10 qv10 rv10 t138v10 v72v10.len (fun i=>enc_3 (v72v10.get i)) =
  (condP t138v10
   ((((v72v10.len+1) * 8≤140737488355328∧v72v10.len+1≤9223372036854775807)) ∧
   (X8 (f55_g8 gates tablev2 kinkv10 (w64 (iv10+(1:Int))) (v72v10.len+1) (appG v72v10.len (fun i=>enc_3 (v72v10.get i)) (fun _=>(enc_3 rv10))))))
   (X9 (f55_g9 gates tablev2 kinkv10 iv10 pv10 qv10 (w64 (rv10+(1:Int))) v72v10.len (fun i=>enc_3 (v72v10.get i))))):=by kernel_rfl
abbrev e55 (r:((Sl Int)×Int×Int)):List PA:=[.one (.sl r.1.len 1 (fun i=>enc_3 (r.1.get i))),.one (.int .i64 r.2.1),.one (.int .i64 r.2.2)]
attribute [irreducible] f55_at0 f55_at1 f55_at2 f55_at3 f55_at4 f55_at5 f55_at6 f55_at7 f55_at8 f55_at9 f55_at10
def s55_at10 (S8:Int→Int→(Sl Int)→((Sl Int)×Int×Int)) (S9:Int→Int→Int→Int→Int→(Sl Int)→((Sl Int)×Int×Int)) (gates:(Sl Gate)) (tablev2:(Sl Mp)) (kinkv10:Int) (iv10:Int) (pv10:Int) (qv10:Int) (rv10:Int) (t138v10:Bool) (v72v10:(Sl Int)):((Sl Int)×Int×Int) :=
  (cond t138v10
   (S8 kinkv10 (w64 (iv10+(1:Int))) (⟨(v72v10.len+1),(appT v72v10.len v72v10.get (fun _=>rv10))⟩:Sl Int))
   (S9 kinkv10 iv10 pv10 qv10 (w64 (rv10+(1:Int))) v72v10))
def p55_at10 (P8:Int→Int→(Sl Int)→Bool) (P9:Int→Int→Int→Int→Int→(Sl Int)→Bool) (gates:(Sl Gate)) (tablev2:(Sl Mp)) (kinkv10:Int) (iv10:Int) (pv10:Int) (qv10:Int) (rv10:Int) (t138v10:Bool) (v72v10:(Sl Int)):Bool :=
  (cond t138v10
   (decide (((v72v10.len+1) * 8≤140737488355328∧v72v10.len+1≤9223372036854775807)) &&
   (P8 kinkv10 (w64 (iv10+(1:Int))) (⟨(v72v10.len+1),(appT v72v10.len v72v10.get (fun _=>rv10))⟩:Sl Int)))
   (P9 kinkv10 iv10 pv10 qv10 (w64 (rv10+(1:Int))) v72v10))
theorem q55_at10 (K : List PA → Prop) (gates : (Sl Gate)) (tablev2 : (Sl Mp))
  (X8:St→Prop) (P8:Int→Int→(Sl Int)→Bool) (S8:Int→Int→(Sl Int)→((Sl Int)×Int×Int))
  (hX8:∀ (kinkv8:Int) (iv8:Int) (v72v8:(Sl Int)) (v72v8_g:Nat→List PV) (v72v8_h:v72v8_g=fun i=>enc_3 (v72v8.get i)),P8 kinkv8 iv8 v72v8=true→K (e55 (S8 kinkv8 iv8 v72v8))→X8 (f55_g8 gates tablev2 kinkv8 iv8 v72v8.len v72v8_g))
  (X9:St→Prop) (P9:Int→Int→Int→Int→Int→(Sl Int)→Bool) (S9:Int→Int→Int→Int→Int→(Sl Int)→((Sl Int)×Int×Int))
  (hX9:∀ (kinkv9:Int) (iv9:Int) (pv9:Int) (qv9:Int) (rv9:Int) (v72v9:(Sl Int)) (v72v9_g:Nat→List PV) (v72v9_h:v72v9_g=fun i=>enc_3 (v72v9.get i)),P9 kinkv9 iv9 pv9 qv9 rv9 v72v9=true→K (e55 (S9 kinkv9 iv9 pv9 qv9 rv9 v72v9))→X9 (f55_g9 gates tablev2 kinkv9 iv9 pv9 qv9 rv9 v72v9.len v72v9_g)) (kinkv10:Int) (iv10:Int) (pv10:Int) (qv10:Int) (rv10:Int) (t138v10:Bool) (v72v10:(Sl Int)) (v72v10_g:Nat→List PV) (v72v10_h:v72v10_g=fun i=>enc_3 (v72v10.get i)) (hs:p55_at10 P8 P9 gates tablev2 kinkv10 iv10 pv10 qv10 rv10 t138v10 v72v10=true) (hk:K (e55 (s55_at10 S8 S9 gates tablev2 kinkv10 iv10 pv10 qv10 rv10 t138v10 v72v10))):f55_at10 (Wk K) X8 X9 gates tablev2 kinkv10 iv10 pv10 qv10 rv10 t138v10 v72v10.len v72v10_g:=by
  subst v72v10_h
  refine ofEq (f55_eq10 (Wk K) X8 X9 gates tablev2 kinkv10 iv10 pv10 qv10 rv10 t138v10 v72v10) ?_
  unfold p55_at10 at hs
  unfold s55_at10 at hk
  exact (condB_go (K := fun r => K (e55 r))
   (fun hs hk=>(andK hs fun hc hs=>⟨hc,(hX8 kinkv10 (w64 (iv10+(1:Int))) (⟨(v72v10.len+1),(appT v72v10.len v72v10.get (fun _=>rv10))⟩:Sl Int) (appG v72v10.len (fun i=>enc_3 (v72v10.get i)) (fun _=>(enc_3 rv10))) (appG_e (enc:=enc_3) (f:=v72v10.get) (h:=(fun _=>rv10)) rfl rfl) hs hk)⟩))
   (fun hs hk=>(hX9 kinkv10 iv10 pv10 qv10 (w64 (rv10+(1:Int))) v72v10 (fun i=>enc_3 (v72v10.get i)) rfl hs hk)) hs hk)
def s55_st9 (S8:Int→Int→(Sl Int)→((Sl Int)×Int×Int)) (gates:(Sl Gate)) (tablev2:(Sl Mp)) (S9:Int→Int→Int→Int→Int→(Sl Int)→((Sl Int)×Int×Int)) (kinkv9:Int) (iv9:Int) (pv9:Int) (qv9:Int) (rv9:Int) (v72v9:(Sl Int)):((Sl Int)×Int×Int) :=
  (cond (decide (rv9 ≤ (gates.get iv9.toNat).High))
   (cond (decide ((s85 ((gates.get ((w64 (iv9 - (2:Int))).toNat)).Z) ((gates.get ((w64 (iv9 - (1:Int))).toNat)).Z) ((gates.get iv9.toNat).Z) pv9 qv9 rv9) ≤ kinkv9))
    (s55_at10 S8 S9 gates tablev2 kinkv9 iv9 pv9 qv9 rv9 (decide ((nthO (((tablev2.get ((w64 (iv9 - (1:Int))).toNat)).F) [qv9,rv9]) 0)≤kinkv9)) v72v9)
    (s55_at10 S8 S9 gates tablev2 kinkv9 iv9 pv9 qv9 rv9 false v72v9))
   (S8 kinkv9 (w64 (iv9+(1:Int))) v72v9))
def p55_st9 (P8:Int→Int→(Sl Int)→Bool) (gates:(Sl Gate)) (tablev2:(Sl Mp)) (P9:Int→Int→Int→Int→Int→(Sl Int)→Bool) (kinkv9:Int) (iv9:Int) (pv9:Int) (qv9:Int) (rv9:Int) (v72v9:(Sl Int)):Bool :=
  (decide ((0≤iv9∧iv9 < (gates.len:Int))) &&
  (cond (decide (rv9 ≤ (gates.get iv9.toNat).High))
   (decide ((0≤(w64 (iv9 - (2:Int)))∧(w64 (iv9 - (2:Int))) < (gates.len:Int))) &&
   (decide ((0≤(w64 (iv9 - (1:Int)))∧(w64 (iv9 - (1:Int))) < (gates.len:Int))) &&
   (decide ((0≤iv9∧iv9 < (gates.len:Int))) &&
   (decide ((p85 ((gates.get ((w64 (iv9 - (2:Int))).toNat)).Z) ((gates.get ((w64 (iv9 - (1:Int))).toNat)).Z) ((gates.get iv9.toNat).Z) pv9 qv9 rv9=true)) &&
   (cond (decide ((s85 ((gates.get ((w64 (iv9 - (2:Int))).toNat)).Z) ((gates.get ((w64 (iv9 - (1:Int))).toNat)).Z) ((gates.get iv9.toNat).Z) pv9 qv9 rv9) ≤ kinkv9))
    (decide ((0≤(w64 (iv9 - (1:Int)))∧(w64 (iv9 - (1:Int))) < (tablev2.len:Int))) &&
    (p55_at10 P8 P9 gates tablev2 kinkv9 iv9 pv9 qv9 rv9 (decide ((nthO (((tablev2.get ((w64 (iv9 - (1:Int))).toNat)).F) [qv9,rv9]) 0)≤kinkv9)) v72v9))
    (p55_at10 P8 P9 gates tablev2 kinkv9 iv9 pv9 qv9 rv9 false v72v9))))))
   (P8 kinkv9 (w64 (iv9+(1:Int))) v72v9)))
def s55_lp9 (S8 : Int → Int → (Sl Int) → ((Sl Int) × Int × Int)) (gates : (Sl Gate)) (tablev2 : (Sl Mp)) : Nat → Int → Int → Int → Int → Int → (Sl Int) → ((Sl Int) × Int × Int)
  | 0=>fun _ _ _ _ _ _=>default
  | k+1=>s55_st9 S8 gates tablev2 (s55_lp9 S8 gates tablev2 k)
def p55_lp9 (P8 : Int → Int → (Sl Int) → Bool) (gates : (Sl Gate)) (tablev2 : (Sl Mp)) : Nat → Int → Int → Int → Int → Int → (Sl Int) → Bool
  | 0=>fun _ _ _ _ _ _=>false
  | k+1=>p55_st9 P8 gates tablev2 (p55_lp9 P8 gates tablev2 k)
def s55_at9 (S8:Int→Int→(Sl Int)→((Sl Int)×Int×Int)) (gates:(Sl Gate)) (tablev2:(Sl Mp)) (kinkv9:Int) (iv9:Int) (pv9:Int) (qv9:Int) (rv9:Int) (v72v9:(Sl Int)):((Sl Int)×Int×Int):=s55_lp9 S8 gates tablev2 Fuel kinkv9 iv9 pv9 qv9 rv9 v72v9
def p55_at9 (P8:Int→Int→(Sl Int)→Bool) (gates:(Sl Gate)) (tablev2:(Sl Mp)) (kinkv9:Int) (iv9:Int) (pv9:Int) (qv9:Int) (rv9:Int) (v72v9:(Sl Int)):Bool:=p55_lp9 P8 gates tablev2 Fuel kinkv9 iv9 pv9 qv9 rv9 v72v9
theorem q55_at9 (K : List PA → Prop) (gates : (Sl Gate)) (tablev2 : (Sl Mp))
  (X8:St→Prop) (P8:Int→Int→(Sl Int)→Bool) (S8:Int→Int→(Sl Int)→((Sl Int)×Int×Int))
  (hX8:∀ (kinkv8:Int) (iv8:Int) (v72v8:(Sl Int)) (v72v8_g:Nat→List PV) (v72v8_h:v72v8_g=fun i=>enc_3 (v72v8.get i)),P8 kinkv8 iv8 v72v8=true→K (e55 (S8 kinkv8 iv8 v72v8))→X8 (f55_g8 gates tablev2 kinkv8 iv8 v72v8.len v72v8_g)) (kinkv9:Int) (iv9:Int) (pv9:Int) (qv9:Int) (rv9:Int) (v72v9:(Sl Int)) (v72v9_g:Nat→List PV) (v72v9_h:v72v9_g=fun i=>enc_3 (v72v9.get i)) (hs:p55_at9 P8 gates tablev2 kinkv9 iv9 pv9 qv9 rv9 v72v9=true) (hk:K (e55 (s55_at9 S8 gates tablev2 kinkv9 iv9 pv9 qv9 rv9 v72v9))):f55_at9 (Wk K) X8 gates tablev2 kinkv9 iv9 pv9 qv9 rv9 v72v9.len v72v9_g:=by
  refine f55_loop9 (Wk K) X8 gates tablev2 kinkv9 iv9 pv9 qv9 rv9 v72v9.len v72v9_g ?_
  intro X9 hstep
  have key:∀ (k:Nat) (kinkv9:Int) (iv9:Int) (pv9:Int) (qv9:Int) (rv9:Int) (v72v9:(Sl Int)) (v72v9_g:Nat→List PV) (v72v9_h:v72v9_g=fun i=>enc_3 (v72v9.get i)),p55_lp9 P8 gates tablev2 k kinkv9 iv9 pv9 qv9 rv9 v72v9=true→K (e55 (s55_lp9 S8 gates tablev2 k kinkv9 iv9 pv9 qv9 rv9 v72v9))→X9 (f55_g9 gates tablev2 kinkv9 iv9 pv9 qv9 rv9 v72v9.len v72v9_g):=by
    intro k
    induction k with
    | zero=>intro kinkv9 iv9 pv9 qv9 rv9 v72v9 v72v9_g v72v9_h hs;exact absurd hs Bool.false_ne_true
    | succ k ih =>
      intro kinkv9 iv9 pv9 qv9 rv9 v72v9 v72v9_g v72v9_h hs hk
      subst v72v9_h
      refine hstep kinkv9 iv9 pv9 qv9 rv9 v72v9 ?_
      have hs:p55_st9 P8 gates tablev2 (p55_lp9 P8 gates tablev2 k) kinkv9 iv9 pv9 qv9 rv9 v72v9=true:=hs
      have hk:K (e55 (s55_st9 S8 gates tablev2 (s55_lp9 S8 gates tablev2 k) kinkv9 iv9 pv9 qv9 rv9 v72v9)):=hk
      unfold p55_st9 at hs
      unfold s55_st9 at hk
      generalize s55_lp9 S8 gates tablev2 k=S9 at hk ih
      generalize p55_lp9 P8 gates tablev2 k=P9 at hs ih
      have hX9:=ih
      exact (andK hs fun hc hs => ⟨hc, (condB_go (K := fun r => K (e55 r))
       (fun hs hk => (andK hs fun hc hs => ⟨hc, (andK hs fun hc hs => ⟨hc, (andK hs fun hc hs => ⟨hc, (andK hs fun hc hs => ⟨hc, (condB_go (K := fun r => K (e55 r))
        (fun hs hk=>(andK hs fun hc hs=>⟨hc,(q55_at10 K gates tablev2 X8 P8 S8 hX8 X9 P9 S9 hX9 kinkv9 iv9 pv9 qv9 rv9 (decide ((nthO (((tablev2.get ((w64 (iv9 - (1:Int))).toNat)).F) [qv9,rv9]) 0)≤kinkv9)) v72v9 (fun i=>enc_3 (v72v9.get i)) rfl hs hk)⟩))
        (fun hs hk=>(q55_at10 K gates tablev2 X8 P8 S8 hX8 X9 P9 S9 hX9 kinkv9 iv9 pv9 qv9 rv9 false v72v9 (fun i=>enc_3 (v72v9.get i)) rfl hs hk)) hs hk)⟩)⟩)⟩)⟩))
       (fun hs hk=>(hX8 kinkv9 (w64 (iv9+(1:Int))) v72v9 (fun i=>enc_3 (v72v9.get i)) rfl hs hk)) hs hk)⟩)
  exact key _ kinkv9 iv9 pv9 qv9 rv9 v72v9 v72v9_g v72v9_h hs hk
def s55_st8 (gates:(Sl Gate)) (tablev2:(Sl Mp)) (S8:Int→Int→(Sl Int)→((Sl Int)×Int×Int)) (kinkv8:Int) (iv8:Int) (v72v8:(Sl Int)):((Sl Int)×Int×Int) :=
  (cond (decide (iv8 < (gates.len : Int)))
   (s55_at9 S8 gates tablev2 kinkv8 iv8 (v72v8.get ((w64 (iv8 - (2:Int))).toNat)) (v72v8.get ((w64 (iv8 - (1:Int))).toNat)) ((gates.get iv8.toNat).Low) v72v8)
   (v72v8,kinkv8,(0:Int)))
def p55_st8 (gates:(Sl Gate)) (tablev2:(Sl Mp)) (P8:Int→Int→(Sl Int)→Bool) (kinkv8:Int) (iv8:Int) (v72v8:(Sl Int)):Bool :=
  (cond (decide (iv8 < (gates.len : Int)))
   (decide ((0≤(w64 (iv8 - (2:Int)))∧(w64 (iv8 - (2:Int))) < (v72v8.len:Int))) &&
   (decide (((w64 (iv8 - (2:Int))).toNat < v72v8.len)) &&
   (decide ((0≤(w64 (iv8 - (1:Int)))∧(w64 (iv8 - (1:Int))) < (v72v8.len:Int))) &&
   (decide (((w64 (iv8 - (1:Int))).toNat < v72v8.len)) &&
   (decide ((0≤iv8∧iv8 < (gates.len:Int))) &&
   (p55_at9 P8 gates tablev2 kinkv8 iv8 (v72v8.get ((w64 (iv8 - (2:Int))).toNat)) (v72v8.get ((w64 (iv8 - (1:Int))).toNat)) ((gates.get iv8.toNat).Low) v72v8))))))
   true)
def s55_lp8 (gates : (Sl Gate)) (tablev2 : (Sl Mp)) : Nat → Int → Int → (Sl Int) → ((Sl Int) × Int × Int)
  | 0=>fun _ _ _=>default
  | k+1=>s55_st8 gates tablev2 (s55_lp8 gates tablev2 k)
def p55_lp8 (gates : (Sl Gate)) (tablev2 : (Sl Mp)) : Nat → Int → Int → (Sl Int) → Bool
  | 0=>fun _ _ _=>false
  | k+1=>p55_st8 gates tablev2 (p55_lp8 gates tablev2 k)
def s55_at8 (gates:(Sl Gate)) (tablev2:(Sl Mp)) (kinkv8:Int) (iv8:Int) (v72v8:(Sl Int)):((Sl Int)×Int×Int):=s55_lp8 gates tablev2 Fuel kinkv8 iv8 v72v8
def p55_at8 (gates:(Sl Gate)) (tablev2:(Sl Mp)) (kinkv8:Int) (iv8:Int) (v72v8:(Sl Int)):Bool:=p55_lp8 gates tablev2 Fuel kinkv8 iv8 v72v8
theorem q55_at8 (K:List PA→Prop) (gates:(Sl Gate)) (tablev2:(Sl Mp)) (kinkv8:Int) (iv8:Int) (v72v8:(Sl Int)) (v72v8_g:Nat→List PV) (v72v8_h:v72v8_g=fun i=>enc_3 (v72v8.get i)) (hs:p55_at8 gates tablev2 kinkv8 iv8 v72v8=true) (hk:K (e55 (s55_at8 gates tablev2 kinkv8 iv8 v72v8))):f55_at8 (Wk K) gates tablev2 kinkv8 iv8 v72v8.len v72v8_g:=by
  refine f55_loop8 (Wk K) gates tablev2 kinkv8 iv8 v72v8.len v72v8_g ?_
  intro X8 hstep
  have key:∀ (k:Nat) (kinkv8:Int) (iv8:Int) (v72v8:(Sl Int)) (v72v8_g:Nat→List PV) (v72v8_h:v72v8_g=fun i=>enc_3 (v72v8.get i)),p55_lp8 gates tablev2 k kinkv8 iv8 v72v8=true→K (e55 (s55_lp8 gates tablev2 k kinkv8 iv8 v72v8))→X8 (f55_g8 gates tablev2 kinkv8 iv8 v72v8.len v72v8_g):=by
    intro k
    induction k with
    | zero=>intro kinkv8 iv8 v72v8 v72v8_g v72v8_h hs;exact absurd hs Bool.false_ne_true
    | succ k ih =>
      intro kinkv8 iv8 v72v8 v72v8_g v72v8_h hs hk
      subst v72v8_h
      refine hstep kinkv8 iv8 v72v8 ?_
      have hs:p55_st8 gates tablev2 (p55_lp8 gates tablev2 k) kinkv8 iv8 v72v8=true:=hs
      have hk:K (e55 (s55_st8 gates tablev2 (s55_lp8 gates tablev2 k) kinkv8 iv8 v72v8)):=hk
      unfold p55_st8 at hs
      unfold s55_st8 at hk
      generalize s55_lp8 gates tablev2 k=S8 at hk ih
      generalize p55_lp8 gates tablev2 k=P8 at hs ih
      have hX8:=ih
      exact (condB_go (K := fun r => K (e55 r))
       (fun hs hk=>(andK hs fun hc hs=>⟨hc,(andK hs fun hc hs=>⟨hc,(andK hs fun hc hs=>⟨hc,(andK hs fun hc hs=>⟨hc,(andK hs fun hc hs=>⟨hc,(q55_at9 K gates tablev2 X8 P8 S8 hX8 kinkv8 iv8 (v72v8.get ((w64 (iv8 - (2:Int))).toNat)) (v72v8.get ((w64 (iv8 - (1:Int))).toNat)) ((gates.get iv8.toNat).Low) v72v8 (fun i=>enc_3 (v72v8.get i)) rfl hs hk)⟩)⟩)⟩)⟩)⟩))
       (fun hs hk=>(wk_rfl hk)) hs hk)
  exact key _ kinkv8 iv8 v72v8 v72v8_g v72v8_h hs hk
def s55_at7 (gates:(Sl Gate)) (tablev2:(Sl Mp)) (kinkv7:Int) (v72v7:(Sl Int)):((Sl Int)×Int×Int) :=
  (s55_at8 gates tablev2 kinkv7 (2:Int) v72v7)
def p55_at7 (gates:(Sl Gate)) (tablev2:(Sl Mp)) (kinkv7:Int) (v72v7:(Sl Int)):Bool :=
  (p55_at8 gates tablev2 kinkv7 (2:Int) v72v7)
theorem q55_at7 (K:List PA→Prop) (gates:(Sl Gate)) (tablev2:(Sl Mp)) (kinkv7:Int) (v72v7:(Sl Int)) (v72v7_g:Nat→List PV) (v72v7_h:v72v7_g=fun i=>enc_3 (v72v7.get i)) (hs:p55_at7 gates tablev2 kinkv7 v72v7=true) (hk:K (e55 (s55_at7 gates tablev2 kinkv7 v72v7))):f55_at7 (Wk K) gates tablev2 kinkv7 v72v7.len v72v7_g:=by
  subst v72v7_h
  refine ofEq (f55_eq7 (Wk K) gates tablev2 kinkv7 v72v7) ?_
  unfold p55_at7 at hs
  unfold s55_at7 at hk
  exact (q55_at8 K gates tablev2 kinkv7 (2:Int) v72v7 (fun i=>enc_3 (v72v7.get i)) rfl hs hk)
def s55_st6 (S5:Int→Int→((Sl Int)×Int×Int)) (gates:(Sl Gate)) (tablev2:(Sl Mp)) (S6:Int→Int→Int→((Sl Int)×Int×Int)) (kinkv6:Int) (pv6:Int) (qv6:Int):((Sl Int)×Int×Int) :=
  (cond (decide (qv6 ≤ (gates.get 1).High))
   (cond ((nthO (((tablev2.get 0).F) [pv6, qv6]) 0) == kinkv6)
    (s55_at7 gates tablev2 kinkv6 (⟨2,(getT pv6 [pv6,qv6])⟩:Sl Int))
    (S6 kinkv6 pv6 (w64 (qv6+(1:Int)))))
   (S5 kinkv6 (w64 (pv6+(1:Int)))))
def p55_st6 (P5:Int→Int→Bool) (gates:(Sl Gate)) (tablev2:(Sl Mp)) (P6:Int→Int→Int→Bool) (kinkv6:Int) (pv6:Int) (qv6:Int):Bool :=
  (decide ((0≤(1:Int)∧(1:Int) < (gates.len:Int))) &&
  (cond (decide (qv6 ≤ (gates.get 1).High))
   (decide ((0≤(0:Int)∧(0:Int) < (tablev2.len:Int))) &&
   (cond ((nthO (((tablev2.get 0).F) [pv6, qv6]) 0) == kinkv6)
    (p55_at7 gates tablev2 kinkv6 (⟨2,(getT pv6 [pv6,qv6])⟩:Sl Int))
    (P6 kinkv6 pv6 (w64 (qv6+(1:Int))))))
   (P5 kinkv6 (w64 (pv6+(1:Int))))))
def s55_lp6 (S5 : Int → Int → ((Sl Int) × Int × Int)) (gates : (Sl Gate)) (tablev2 : (Sl Mp)) : Nat → Int → Int → Int → ((Sl Int) × Int × Int)
  | 0=>fun _ _ _=>default
  | k+1=>s55_st6 S5 gates tablev2 (s55_lp6 S5 gates tablev2 k)
def p55_lp6 (P5 : Int → Int → Bool) (gates : (Sl Gate)) (tablev2 : (Sl Mp)) : Nat → Int → Int → Int → Bool
  | 0=>fun _ _ _=>false
  | k+1=>p55_st6 P5 gates tablev2 (p55_lp6 P5 gates tablev2 k)
def s55_at6 (S5:Int→Int→((Sl Int)×Int×Int)) (gates:(Sl Gate)) (tablev2:(Sl Mp)) (kinkv6:Int) (pv6:Int) (qv6:Int):((Sl Int)×Int×Int):=s55_lp6 S5 gates tablev2 Fuel kinkv6 pv6 qv6
def p55_at6 (P5:Int→Int→Bool) (gates:(Sl Gate)) (tablev2:(Sl Mp)) (kinkv6:Int) (pv6:Int) (qv6:Int):Bool:=p55_lp6 P5 gates tablev2 Fuel kinkv6 pv6 qv6
theorem q55_at6 (K : List PA → Prop) (gates : (Sl Gate)) (tablev2 : (Sl Mp))
  (X5:St→Prop) (P5:Int→Int→Bool) (S5:Int→Int→((Sl Int)×Int×Int))
  (hX5:∀ (kinkv5:Int) (pv5:Int),P5 kinkv5 pv5=true→K (e55 (S5 kinkv5 pv5))→X5 (f55_g5 gates tablev2 kinkv5 pv5)) (kinkv6:Int) (pv6:Int) (qv6:Int) (hs:p55_at6 P5 gates tablev2 kinkv6 pv6 qv6=true) (hk:K (e55 (s55_at6 S5 gates tablev2 kinkv6 pv6 qv6))):f55_at6 (Wk K) X5 gates tablev2 kinkv6 pv6 qv6:=by
  refine f55_loop6 (Wk K) X5 gates tablev2 kinkv6 pv6 qv6 ?_
  intro X6 hstep
  have key:∀ (k:Nat) (kinkv6:Int) (pv6:Int) (qv6:Int),p55_lp6 P5 gates tablev2 k kinkv6 pv6 qv6=true→K (e55 (s55_lp6 S5 gates tablev2 k kinkv6 pv6 qv6))→X6 (f55_g6 gates tablev2 kinkv6 pv6 qv6):=by
    intro k
    induction k with
    | zero=>intro kinkv6 pv6 qv6 hs;exact absurd hs Bool.false_ne_true
    | succ k ih =>
      intro kinkv6 pv6 qv6 hs hk
      refine hstep kinkv6 pv6 qv6 ?_
      have hs:p55_st6 P5 gates tablev2 (p55_lp6 P5 gates tablev2 k) kinkv6 pv6 qv6=true:=hs
      have hk:K (e55 (s55_st6 S5 gates tablev2 (s55_lp6 S5 gates tablev2 k) kinkv6 pv6 qv6)):=hk
      unfold p55_st6 at hs
      unfold s55_st6 at hk
      generalize s55_lp6 S5 gates tablev2 k=S6 at hk ih
      generalize p55_lp6 P5 gates tablev2 k=P6 at hs ih
      have hX6:=ih
      exact (andK hs fun hc hs => ⟨hc, (condB_go (K := fun r => K (e55 r))
       (fun hs hk => (andK hs fun hc hs => ⟨hc, (condB_go (K := fun r => K (e55 r))
        (fun hs hk=>(q55_at7 K gates tablev2 kinkv6 (⟨2,(getT pv6 [pv6,qv6])⟩:Sl Int) (getL [(enc_3 pv6),(enc_3 qv6)]) (getL_enc (enc:=enc_3) (x:=pv6) (y:=qv6) (r:=[])) hs hk))
        (fun hs hk=>(hX6 kinkv6 pv6 (w64 (qv6+(1:Int))) hs hk)) hs hk)⟩))
       (fun hs hk=>(hX5 kinkv6 (w64 (pv6+(1:Int))) hs hk)) hs hk)⟩)
  exact key _ kinkv6 pv6 qv6 hs hk
def s55_st5 (gates:(Sl Gate)) (tablev2:(Sl Mp)) (S5:Int→Int→((Sl Int)×Int×Int)) (kinkv5:Int) (pv5:Int):((Sl Int)×Int×Int) :=
  (cond (decide (pv5 ≤ (gates.get 0).High))
   (s55_at6 S5 gates tablev2 kinkv5 pv5 ((gates.get 1).Low))
   (s55_at7 gates tablev2 kinkv5 (⟨0,(fun _=>default)⟩:Sl Int)))
def p55_st5 (gates:(Sl Gate)) (tablev2:(Sl Mp)) (P5:Int→Int→Bool) (kinkv5:Int) (pv5:Int):Bool :=
  (decide ((0≤(0:Int)∧(0:Int) < (gates.len:Int))) &&
  (cond (decide (pv5 ≤ (gates.get 0).High))
   (decide ((0≤(1:Int)∧(1:Int) < (gates.len:Int))) &&
   (p55_at6 P5 gates tablev2 kinkv5 pv5 ((gates.get 1).Low)))
   (p55_at7 gates tablev2 kinkv5 (⟨0,(fun _=>default)⟩:Sl Int))))
def s55_lp5 (gates : (Sl Gate)) (tablev2 : (Sl Mp)) : Nat → Int → Int → ((Sl Int) × Int × Int)
  | 0=>fun _ _=>default
  | k+1=>s55_st5 gates tablev2 (s55_lp5 gates tablev2 k)
def p55_lp5 (gates : (Sl Gate)) (tablev2 : (Sl Mp)) : Nat → Int → Int → Bool
  | 0=>fun _ _=>false
  | k+1=>p55_st5 gates tablev2 (p55_lp5 gates tablev2 k)
def s55_at5 (gates:(Sl Gate)) (tablev2:(Sl Mp)) (kinkv5:Int) (pv5:Int):((Sl Int)×Int×Int):=s55_lp5 gates tablev2 Fuel kinkv5 pv5
def p55_at5 (gates:(Sl Gate)) (tablev2:(Sl Mp)) (kinkv5:Int) (pv5:Int):Bool:=p55_lp5 gates tablev2 Fuel kinkv5 pv5
theorem q55_at5 (K:List PA→Prop) (gates:(Sl Gate)) (tablev2:(Sl Mp)) (kinkv5:Int) (pv5:Int) (hs:p55_at5 gates tablev2 kinkv5 pv5=true) (hk:K (e55 (s55_at5 gates tablev2 kinkv5 pv5))):f55_at5 (Wk K) gates tablev2 kinkv5 pv5:=by
  refine f55_loop5 (Wk K) gates tablev2 kinkv5 pv5 ?_
  intro X5 hstep
  have key:∀ (k:Nat) (kinkv5:Int) (pv5:Int),p55_lp5 gates tablev2 k kinkv5 pv5=true→K (e55 (s55_lp5 gates tablev2 k kinkv5 pv5))→X5 (f55_g5 gates tablev2 kinkv5 pv5):=by
    intro k
    induction k with
    | zero=>intro kinkv5 pv5 hs;exact absurd hs Bool.false_ne_true
    | succ k ih =>
      intro kinkv5 pv5 hs hk
      refine hstep kinkv5 pv5 ?_
      have hs:p55_st5 gates tablev2 (p55_lp5 gates tablev2 k) kinkv5 pv5=true:=hs
      have hk:K (e55 (s55_st5 gates tablev2 (s55_lp5 gates tablev2 k) kinkv5 pv5)):=hk
      unfold p55_st5 at hs
      unfold s55_st5 at hk
      generalize s55_lp5 gates tablev2 k=S5 at hk ih
      generalize p55_lp5 gates tablev2 k=P5 at hs ih
      have hX5:=ih
      exact (andK hs fun hc hs => ⟨hc, (condB_go (K := fun r => K (e55 r))
       (fun hs hk=>(andK hs fun hc hs=>⟨hc,(q55_at6 K gates tablev2 X5 P5 S5 hX5 kinkv5 pv5 ((gates.get 1).Low) hs hk)⟩))
       (fun hs hk=>(q55_at7 K gates tablev2 kinkv5 (⟨0,(fun _=>default)⟩:Sl Int) (fun i=>enc_3 ((fun _=>default) i)) rfl hs hk)) hs hk)⟩)
  exact key _ kinkv5 pv5 hs hk
def s55_at4 (gates:(Sl Gate)) (tablev2:(Sl Mp)) (kinkv4:Int):((Sl Int)×Int×Int) :=
  (s55_at5 gates tablev2 kinkv4 ((gates.get 0).Low))
def p55_at4 (gates:(Sl Gate)) (tablev2:(Sl Mp)) (kinkv4:Int):Bool :=
  (decide ((0≤(0:Int)∧(0:Int) < (gates.len:Int))) &&
  (p55_at5 gates tablev2 kinkv4 ((gates.get 0).Low)))
theorem q55_at4 (K:List PA→Prop) (gates:(Sl Gate)) (tablev2:(Sl Mp)) (kinkv4:Int) (hs:p55_at4 gates tablev2 kinkv4=true) (hk:K (e55 (s55_at4 gates tablev2 kinkv4))):f55_at4 (Wk K) gates tablev2 kinkv4:=by
  refine ofEq (f55_eq4 (Wk K) gates tablev2 kinkv4) ?_
  unfold p55_at4 at hs
  unfold s55_at4 at hk
  exact (andK hs fun hc hs=>⟨hc,(q55_at5 K gates tablev2 kinkv4 ((gates.get 0).Low) hs hk)⟩)
def s55_ex3 (gates:(Sl Gate)) (tablev2:(Sl Mp)) (kinkv3:Int):((Sl Int)×Int×Int) :=
  (s55_at4 gates tablev2 kinkv3)
def p55_ex3 (gates:(Sl Gate)) (tablev2:(Sl Mp)) (kinkv3:Int):Bool :=
  (p55_at4 gates tablev2 kinkv3)
def s55_st3 (gates:(Sl Gate)) (tablev2:(Sl Mp)) (k24_0:Int) (k24_1:Int) (S3:Int→((Sl Int)×Int×Int)) (kinkv3:Int):((Sl Int)×Int×Int) :=
  (cond (decide (kinkv3 < (0:Int)))
   (S3 (nthO (((tablev2.get 0).F) [k24_0,k24_1]) 0))
   (cond (decide ((nthO (((tablev2.get 0).F) [k24_0, k24_1]) 0) < kinkv3))
    (S3 (nthO (((tablev2.get 0).F) [k24_0,k24_1]) 0))
    (S3 kinkv3)))
def p55_st3 (gates:(Sl Gate)) (tablev2:(Sl Mp)) (k24_0:Int) (k24_1:Int) (P3:Int→Bool) (kinkv3:Int):Bool :=
  (cond (decide (kinkv3 < (0:Int)))
   (P3 (nthO (((tablev2.get 0).F) [k24_0,k24_1]) 0))
   (cond (decide ((nthO (((tablev2.get 0).F) [k24_0, k24_1]) 0) < kinkv3))
    (P3 (nthO (((tablev2.get 0).F) [k24_0,k24_1]) 0))
    (P3 kinkv3)))
def s55_lp3 (gates : (Sl Gate)) (tablev2 : (Sl Mp)) : List (List Int) → Int → ((Sl Int) × Int × Int)
  | []=>s55_ex3 gates tablev2
  | y :: r=>s55_st3 gates tablev2 (y.getD 0 0) (y.getD 1 0) (s55_lp3 gates tablev2 r)
def p55_lp3 (gates : (Sl Gate)) (tablev2 : (Sl Mp)) : List (List Int) → Int → Bool
  | []=>p55_ex3 gates tablev2
  | y :: r=>p55_st3 gates tablev2 (y.getD 0 0) (y.getD 1 0) (p55_lp3 gates tablev2 r)
def mrI55_3 (_gates:Sl Gate) (t:Sl Mp) (ys:List (List Int)):Bool:=ys.all fun y=>decide (0≤nthO ((t.get 0).F y) 0)
theorem mrT55_3 (gates:Sl Gate) (t:Sl Mp):∀ (y:List Int) (r:List (List Int)),mrI55_3 gates t (y :: r)=true→mrI55_3 gates t r=true:=fun y r h=>by
  simp only [mrI55_3,List.all_cons,Bool.and_eq_true] at h ⊢;exact h.2
def kst (F:List Int→Option (List Int)) (k:Int) (y:List Int):Int:=if k < 0 then nthO (F y) 0 else if nthO (F y) 0 < k then nthO (F y) 0 else k
theorem kst_perm (F:List Int→Option (List Int)) {ys zs:List (List Int)} (h:∀ y∈ys,0≤nthO (F y) 0) (hp:ys.Perm zs) (k:Int):ys.foldl (kst F) k=zs.foldl (kst F) k:=by
  refine hp.foldl_eq' (fun x hx y hy z=>?_) k
  have h1:=h x hx
  have h2:=h y hy
  unfold kst
  repeat' split
  all_goals omega
theorem slp55_3 (gates : Sl Gate) (t : Sl Mp) : ∀ (ys : List (List Int)) (k : Int), (∀ y ∈ ys, y.length = 2) → s55_lp3 gates t ys k = s55_ex3 gates t (ys.foldl (kst (t.get 0).F) k)
  | [],k,_=>rfl
  | y :: r,k,h=>by
    have hy:=h y List.mem_cons_self
    match y,hy with
    | [a,b],_ =>
    have ih:=fun k=>slp55_3 gates t r k (fun z hz=>h z (List.mem_cons_of_mem _ hz))
    show s55_st3 gates t a b (s55_lp3 gates t r) k=_
    rw [List.foldl_cons]
    unfold s55_st3
    by_cases h1:k < 0
    · rw [decide_eq_true h1,cond_true,ih,show kst (t.get 0).F k [a,b]=nthO ((t.get 0).F [a,b]) 0 from if_pos h1]
    · rw [decide_eq_false h1, cond_false]
      by_cases h2:nthO ((t.get 0).F [a,b]) 0 < k
      · rw [decide_eq_true h2,cond_true,ih,show kst (t.get 0).F k [a,b]=nthO ((t.get 0).F [a,b]) 0 from (if_neg h1).trans (if_pos h2)]
      · rw [decide_eq_false h2,cond_false,ih,show kst (t.get 0).F k [a,b]=k from (if_neg h1).trans (if_neg h2)]
theorem plp55_3 (gates : Sl Gate) (t : Sl Mp) : ∀ (ys : List (List Int)) (k : Int), (∀ y ∈ ys, y.length = 2) → p55_lp3 gates t ys k = p55_ex3 gates t (ys.foldl (kst (t.get 0).F) k)
  | [],k,_=>rfl
  | y :: r,k,h=>by
    have hy:=h y List.mem_cons_self
    match y,hy with
    | [a,b],_ =>
    have ih:=fun k=>plp55_3 gates t r k (fun z hz=>h z (List.mem_cons_of_mem _ hz))
    show p55_st3 gates t a b (p55_lp3 gates t r) k=_
    rw [List.foldl_cons]
    unfold p55_st3
    by_cases h1:k < 0
    · rw [decide_eq_true h1,cond_true,ih,show kst (t.get 0).F k [a,b]=nthO ((t.get 0).F [a,b]) 0 from if_pos h1]
    · rw [decide_eq_false h1, cond_false]
      by_cases h2:nthO ((t.get 0).F [a,b]) 0 < k
      · rw [decide_eq_true h2,cond_true,ih,show kst (t.get 0).F k [a,b]=nthO ((t.get 0).F [a,b]) 0 from (if_neg h1).trans (if_pos h2)]
      · rw [decide_eq_false h2,cond_false,ih,show kst (t.get 0).F k [a,b]=k from (if_neg h1).trans (if_neg h2)]
theorem mrO55_3 (gates : Sl Gate) (t : Sl Mp) (ys zs : List (List Int)) (hl : ∀ y ∈ ys, y.length = 2) (h : mrI55_3 gates t ys = true) (hp : ys.Perm zs) :
    mrI55_3 gates t zs=true∧s55_lp3 gates t ys=s55_lp3 gates t zs∧p55_lp3 gates t ys=p55_lp3 gates t zs:=by
  simp only [mrI55_3,List.all_eq_true,decide_eq_true_eq] at h ⊢
  have hl2:∀ y∈zs,y.length=2:=fun y hy=>hl y (hp.mem_iff.2 hy)
  refine ⟨fun y hy=>h y (hp.mem_iff.2 hy),funext fun k=>?_,funext fun k=>?_⟩
  · rw [slp55_3 gates t ys k hl,slp55_3 gates t zs k hl2,kst_perm _ h hp]
  · rw [plp55_3 gates t ys k hl,plp55_3 gates t zs k hl2,kst_perm _ h hp]
def s55_at3 (gates:(Sl Gate)) (tablev2:(Sl Mp)) (kinkv3:Int):((Sl Int)×Int×Int):=s55_lp3 gates tablev2 (keys55 gates) kinkv3
def p55_at3 (gates:(Sl Gate)) (tablev2:(Sl Mp)) (kinkv3:Int):Bool:=keysB 2 ((tablev2.get 0).n) ((tablev2.get 0).F) (keys55 gates) && mrI55_3 gates tablev2 (keys55 gates) && p55_lp3 gates tablev2 (keys55 gates) kinkv3
theorem q55_at3 (K:List PA→Prop) (gates:(Sl Gate)) (tablev2:(Sl Mp)) (kinkv3:Int) (hs:p55_at3 gates tablev2 kinkv3=true) (hk:K (e55 (s55_at3 gates tablev2 kinkv3))):f55_at3 (Wk K) gates tablev2 [] kinkv3:=by
  unfold p55_at3 at hs
  rw [Bool.and_eq_true,Bool.and_eq_true] at hs
  obtain ⟨⟨hkeys,hI⟩,hs⟩:=hs
  unfold s55_at3 at hk
  generalize hys:keys55 gates=ys0 at hkeys hI hs hk
  refine f55_loop3 (Wk K) gates tablev2 [] kinkv3 ?_
  intro X3 hstep
  have key:∀ (N:Nat) (ys:List (List Int)) (seen:List (List Int)) (kinkv3:Int),ys.length=N→(FinM 2 ((tablev2.get 0).n) ((tablev2.get 0).F)→RemL 2 ((tablev2.get 0).F) seen ys)→mrI55_3 gates tablev2 ys=true→p55_lp3 gates tablev2 ys kinkv3=true→K (e55 (s55_lp3 gates tablev2 ys kinkv3))→X3 (f55_g3 gates tablev2 seen kinkv3):=by
    intro N
    induction N with
    | zero =>
      intro ys seen kinkv3 hN hrem hI hs hk
      obtain rfl:=List.eq_nil_of_length_eq_zero hN
      refine hstep seen kinkv3 ?_
      intro hfin
      have hrem:=hrem hfin
      refine ⟨fun _=>?_,fun k24_0 k24_1 hF hns=>absurd (hrem.2.2 [k24_0,k24_1] rfl hF hns) (by simp)⟩
      have hs:p55_ex3 gates tablev2 kinkv3=true:=hs
      have hk:K (e55 (s55_ex3 gates tablev2 kinkv3)):=hk
      unfold p55_ex3 at hs
      unfold s55_ex3 at hk
      exact (q55_at4 K gates tablev2 kinkv3 hs hk)
    | succ N ih =>
      intro ys seen kinkv3 hN hrem hI hs hk
      refine hstep seen kinkv3 ?_
      intro hfin
      have hrem:=hrem hfin
      refine ⟨fun hend=>?_,fun k24_0 k24_1 hF hns=>?_⟩
      · exact absurd (rem_end hrem hend) (fun e=>by rw [e] at hN;simp at hN)
      · obtain ⟨hperm, hrem2, hlen⟩ := rem_pick hrem (c := [k24_0, k24_1]) rfl hF hns
        obtain ⟨hI2,e1,e2⟩:=mrO55_3 gates tablev2 ys _ (fun y hy=>(hrem.2.1 y hy).1) hI hperm
        have hI3:=mrT55_3 gates tablev2 _ _ hI2
        rw [e2] at hs
        rw [e1] at hk
        have hs:p55_st3 gates tablev2 k24_0 k24_1 (p55_lp3 gates tablev2 (ys.erase [k24_0,k24_1])) kinkv3=true:=hs
        have hk:K (e55 (s55_st3 gates tablev2 k24_0 k24_1 (s55_lp3 gates tablev2 (ys.erase [k24_0,k24_1])) kinkv3)):=hk
        have ih:=fun (kinkv3:Int)=>ih (ys.erase [k24_0,k24_1]) ([k24_0,k24_1] :: seen) kinkv3 (by omega) (fun _=>hrem2) hI3
        unfold p55_st3 at hs
        unfold s55_st3 at hk
        generalize s55_lp3 gates tablev2 (ys.erase [k24_0,k24_1])=S3 at hk ih
        generalize p55_lp3 gates tablev2 (ys.erase [k24_0,k24_1])=P3 at hs ih
        have hX3:=ih
        exact (condB_go (K := fun r => K (e55 r))
         (fun hs hk=>(hX3 (nthO (((tablev2.get 0).F) [k24_0,k24_1]) 0) hs hk))
         (fun hs hk => (condB_go (K := fun r => K (e55 r))
          (fun hs hk=>(hX3 (nthO (((tablev2.get 0).F) [k24_0,k24_1]) 0) hs hk))
          (fun hs hk=>(hX3 kinkv3 hs hk)) hs hk)) hs hk)
  exact key _ ys0 [] kinkv3 rfl (fun hf=>rem_start hkeys hf) hI hs hk
def s55_at2 (gates:(Sl Gate)) (tablev2:(Sl Mp)):((Sl Int)×Int×Int) :=
  (s55_at3 gates tablev2 (-1:Int))
def p55_at2 (gates:(Sl Gate)) (tablev2:(Sl Mp)):Bool :=
  (decide ((0≤(0:Int)∧(0:Int) < (tablev2.len:Int))) &&
  (p55_at3 gates tablev2 (-1:Int)))
theorem q55_at2 (K:List PA→Prop) (gates:(Sl Gate)) (tablev2:(Sl Mp)) (tablev2_g:Nat→List PV) (tablev2_h:tablev2_g=fun i=>enc_129 (tablev2.get i)) (hs:p55_at2 gates tablev2=true) (hk:K (e55 (s55_at2 gates tablev2))):f55_at2 (Wk K) gates tablev2.len tablev2_g:=by
  subst tablev2_h
  refine ofEq (f55_eq2 (Wk K) gates tablev2) ?_
  unfold p55_at2 at hs
  unfold s55_at2 at hk
  exact (andK hs fun hc hs=>⟨hc,(q55_at3 K gates tablev2 (-1:Int) hs hk)⟩)
def s55_at1 (gates:(Sl Gate)):((Sl Int)×Int×Int) :=
  (s55_at2 gates (s93 gates))
def p55_at1 (gates:(Sl Gate)):Bool :=
  (decide ((p93 gates=true)) &&
  (p55_at2 gates (s93 gates)))
theorem q55_at1 (K:List PA→Prop) (gates:(Sl Gate)) (hs:p55_at1 gates=true) (hk:K (e55 (s55_at1 gates))):f55_at1 (Wk K) gates:=by
  refine ofEq (f55_eq1 (Wk K) gates) ?_
  unfold p55_at1 at hs
  unfold s55_at1 at hk
  exact (andK hs fun hc hs=>⟨⟨isE,hc⟩,(q55_at2 K gates (s93 gates) (fun i=>enc_129 ((s93 gates).get i)) rfl hs hk)⟩)
def s55_at0 (gates:(Sl Gate)) (t18v0:Bool):((Sl Int)×Int×Int) :=
  (cond t18v0
   ((⟨0,fun _=>default⟩:(Sl Int)),(0:Int),(2:Int))
   (s55_at1 gates))
def p55_at0 (gates:(Sl Gate)) (t18v0:Bool):Bool :=
  (cond t18v0
   true
   (p55_at1 gates))
theorem q55_at0 (K:List PA→Prop) (gates:(Sl Gate)) (t18v0:Bool) (hs:p55_at0 gates t18v0=true) (hk:K (e55 (s55_at0 gates t18v0))):f55_at0 (Wk K) gates t18v0:=by
  refine ofEq (f55_eq0 (Wk K) gates t18v0) ?_
  unfold p55_at0 at hs
  unfold s55_at0 at hk
  exact (condB_go (K := fun r => K (e55 r))
   (fun hs hk=>(wk hk (rl_c (.one (.nil _ _)) (rl_c (.one (.rfl _)) (rl_c (.one (.rfl _)) rl_n)))))
   (fun hs hk=>(q55_at1 K gates hs hk)) hs hk)
def s55 (gates:(Sl Gate)):((Sl Int)×Int×Int) :=
  (s55_at0 gates (!(s92 gates)))
def p55 (gates:(Sl Gate)):Bool :=
  (decide ((p92 gates=true)) &&
  (p55_at0 gates (!(s92 gates))))
theorem q55 (gates:(Sl Gate)) (K:List PA→Prop) (hs:p55 gates=true) (hk:K (e55 (s55 gates))):vcFun Try.prog G55 ann55 55 [.one (.sl gates.len 3 (fun i=>enc_55 (gates.get i)))] (Wk K):=by
  refine ofEq (f55_top gates (Wk K)) ?_
  unfold p55 at hs
  unfold s55 at hk
  exact (andK hs fun hc hs=>⟨⟨isE,hc⟩,(q55_at0 K gates (!(s92 gates)) hs hk)⟩)
def ctr55 : List PA → COut
  | [.one (.sl a0_n a0_s a0_g)]=>.det (IsE enc_55 3 a0_s a0_g∧p55 (⟨a0_n,decF_55 a0_g⟩:(Sl Gate))=true) [.one (.sl (((s55 (⟨a0_n,decF_55 a0_g⟩:(Sl Gate))).1).len) 1 (fun i=>enc_3 (((s55 (⟨a0_n,decF_55 a0_g⟩:(Sl Gate))).1).get i))),.one (.int .i64 ((s55 (⟨a0_n,decF_55 a0_g⟩:(Sl Gate))).2.1)),.one (.int .i64 ((s55 (⟨a0_n,decF_55 a0_g⟩:(Sl Gate))).2.2))]
  | _=>.no
theorem call55:Callable Try.prog 55:=⟨_,rfl,rfl,by kernel_rfl⟩
theorem ok55:Ok Try.prog 55 ctr55:=ok_tabW okT55 call55 fun args K h=>by
  unfold ctr55 at h
  split at h
  · rename_i a0_n a0_s a0_g
    obtain ⟨⟨⟨rfl,a0_f,rfl⟩,hs⟩,hk⟩:=h
    try rw [decF_enc_55 a0_f] at hs
    try rw [decF_enc_55 a0_f] at hk
    exact ⟨_,rl_rfl pa_rfl _,(fun _ _=>[]),(fun _=>false),ann55,q55 (⟨a0_n,a0_f⟩:(Sl Gate)) K hs hk⟩
  · exact h.elim
abbrev T62:Tabs:=Tabs.nil
theorem okT62:TabsOk Try.prog T62:=TabsOk.nil
abbrev G62:Ctrs:=csm T62 (fun _ _=>[]) (fun _=>false)
def ann62:Ann:=⟨5,[(0,⟨[],[],[],[],[],[],[]⟩),(1,⟨[0],[4],[],[],[],[],[]⟩)],
  [],
  [],
  [],[]⟩
theorem f62_top (K : List PA → Prop) :
  vcFun Try.prog G62 ann62 62 [] K =
  (K [.one (.sl 3 3 (getL [(enc_55 (⟨(0:Int),(0:Int),(10:Int)⟩:Gate)),(enc_55 (⟨(100:Int),(20:Int),(30:Int)⟩:Gate)),(enc_55 (⟨(200:Int),(30:Int),(60:Int)⟩:Gate))]))]):=by kernel_rfl
abbrev e62 (r:(Sl Gate)):List PA:=[.one (.sl r.len 3 (fun i=>enc_55 (r.get i)))]
def s62:(Sl Gate) :=
  (⟨3,(getT (⟨(0:Int),(0:Int),(10:Int)⟩:Gate) [(⟨(0:Int),(0:Int),(10:Int)⟩:Gate),(⟨(100:Int),(20:Int),(30:Int)⟩:Gate),(⟨(200:Int),(30:Int),(60:Int)⟩:Gate)])⟩:(Sl Gate))
theorem q62 (K:List PA→Prop) (hk:K (e62 (s62))):vcFun Try.prog G62 ann62 62 [] K:=by
  refine ofEq (f62_top K) ?_
  unfold s62 at hk
  exact (Eq.mpr (congrArg K (congrArg (fun (g_:Nat→List PV)=>([.one (.sl 3 3 g_)]:List PA)) (getL_enc (enc:=enc_55) (x:=(⟨(0:Int),(0:Int),(10:Int)⟩:Gate)) (y:=(⟨(100:Int),(20:Int),(30:Int)⟩:Gate)) (r:=[(⟨(200:Int),(30:Int),(60:Int)⟩:Gate)])))) hk)
def ctr62 : List PA → COut
  | []=>.tot [.one (.sl ((s62).len) 3 (fun i=>enc_55 ((s62).get i)))]
  | _=>.no
theorem call62:Callable Try.prog 62:=⟨_,rfl,rfl,by kernel_rfl⟩
theorem ok62:Ok Try.prog 62 ctr62:=ok_tab okT62 call62 fun args K h=>by
  unfold ctr62 at h
  split at h
  · have hk := h
    exact ⟨(fun _ _=>[]),(fun _=>false),ann62,q62 K hk⟩
  · exact h.elim
end Go.Proofs
namespace Go.Proofs
open Go Go.Pm
set_option maxRecDepth 100000
set_option linter.unusedVariables false
attribute [local irreducible] Go.Pm.vcFun Go.Pm.vc Go.Pm.vcIter
abbrev T63:Tabs:=Tabs.nil
theorem okT63:TabsOk Try.prog T63:=TabsOk.nil
abbrev G63:Ctrs:=csm T63 (fun _ _=>[]) (fun _=>false)
def ann63:Ann:=⟨5,[(0,⟨[],[],[],[],[],[],[]⟩),(1,⟨[0],[4],[],[],[],[],[]⟩)],
  [],
  [],
  [],[]⟩
theorem f63_top (K : List PA → Prop) :
  vcFun Try.prog G63 ann63 63 [] K =
  (K [.one (.sl 3 3 (getL [(enc_55 (⟨(0:Int),(0:Int),(10:Int)⟩:Gate)),(enc_55 (⟨(100:Int),(20:Int),(30:Int)⟩:Gate)),(enc_55 (⟨(200:Int),(0:Int),(9:Int)⟩:Gate))]))]):=by kernel_rfl
abbrev e63 (r:(Sl Gate)):List PA:=[.one (.sl r.len 3 (fun i=>enc_55 (r.get i)))]
def s63:(Sl Gate) :=
  (⟨3,(getT (⟨(0:Int),(0:Int),(10:Int)⟩:Gate) [(⟨(0:Int),(0:Int),(10:Int)⟩:Gate),(⟨(100:Int),(20:Int),(30:Int)⟩:Gate),(⟨(200:Int),(0:Int),(9:Int)⟩:Gate)])⟩:(Sl Gate))
theorem q63 (K:List PA→Prop) (hk:K (e63 (s63))):vcFun Try.prog G63 ann63 63 [] K:=by
  refine ofEq (f63_top K) ?_
  unfold s63 at hk
  exact (Eq.mpr (congrArg K (congrArg (fun (g_:Nat→List PV)=>([.one (.sl 3 3 g_)]:List PA)) (getL_enc (enc:=enc_55) (x:=(⟨(0:Int),(0:Int),(10:Int)⟩:Gate)) (y:=(⟨(100:Int),(20:Int),(30:Int)⟩:Gate)) (r:=[(⟨(200:Int),(0:Int),(9:Int)⟩:Gate)])))) hk)
def ctr63 : List PA → COut
  | []=>.tot [.one (.sl ((s63).len) 3 (fun i=>enc_55 ((s63).get i)))]
  | _=>.no
theorem call63:Callable Try.prog 63:=⟨_,rfl,rfl,by kernel_rfl⟩
theorem ok63:Ok Try.prog 63 ctr63:=ok_tab okT63 call63 fun args K h=>by
  unfold ctr63 at h
  split at h
  · have hk := h
    exact ⟨(fun _ _=>[]),(fun _=>false),ann63,q63 K hk⟩
  · exact h.elim
abbrev T18:Tabs:=((((((((((Tabs.nil.addF 19 ctr19).addF 30 ctr30).addF 31 ctr31).addF 34 ctr34).addF 38 ctr38).addF 39 ctr39).addF 40 ctr40).addF 55 ctr55).addF 62 ctr62).addF 63 ctr63)
theorem okT18:TabsOk Try.prog T18:=((((((((((TabsOk.nil.addF ok19).addF ok30).addF ok31).addF ok34).addF ok38).addF ok39).addF ok40).addF ok55).addF ok62).addF ok63)
abbrev G18:Ctrs:=csm T18 (fun _ _=>[]) (fun _=>false)
def ann18:Ann:=⟨125,[(0,⟨[],[],[],[],[],[],[]⟩),(1,⟨[1,2],[],[],[],[],[],[]⟩),(2,⟨[1,2,3,4,5],[3,4],[],[],[],[],[]⟩),(3,⟨[1,2,3,4,5,6,7],[3,4],[],[],[],[],[]⟩),(4,⟨[1,2,3,4,5,6,7,8,9,10,11],[3,4,9,10],[],[],[],[],[]⟩),(5,⟨[1,2,3,4,5,6,7,8,9,10,11,12,13,14],[3,4,9,10],[],[],[],[],[]⟩),(6,⟨[1,3,4,6,9,10,12,76],[3,4,9,10],[],[],[],[],[]⟩),(7,⟨[0],[],[],[],[],[],[]⟩),(8,⟨[1,3,4,6,9,10,12,15],[3,4,9,10,89],[],[],[],[],[]⟩),(9,⟨[0],[],[],[],[],[],[]⟩)],
  [],
  [(2,⟨[1,2],[],[],[],[],[],[]⟩),(3,⟨[1,2,3,4,5],[3,4],[],[],[],[],[]⟩),(4,⟨[1,2,3,4,5,6,7],[3,4],[],[],[],[],[]⟩),(5,⟨[1,2,3,4,5,6,7,8,9,10,11],[3,4,9,10],[],[],[],[],[]⟩),(6,⟨[1,2,3,4,5,6,7,8,9,10,11,12,13,14],[3,4,9,10],[],[],[],[],[]⟩),(8,⟨[1,3,4,6,9,10,12],[3,4,9,10],[],[],[],[],[]⟩),(9,⟨[1,3,4,6,9,10,12,15],[3,4,9,10,89],[],[],[],[],[]⟩)],
  [],[]⟩
def f18_g0 (cv0_n:Nat) (cv0_g:Nat→List PV) (ev0:Int):St:=⟨[(1,.one (.c (.p (.sl cv0_n 4 cv0_g)))),(2,.one (.c (.p (.int .i64 ev0))))],[],[]⟩
def f18_at0 (K:List PA→Prop) (cv0_n:Nat) (cv0_g:Nat→List PV) (ev0:Int):Prop:=vc Try.prog G18 ann18 (cdF Try.f18 [1,1]) (bodyK Try.prog Try.f18 K) (f18_g0 cv0_n cv0_g ev0)
def f18_g1 (cv0:(Sl Line)) (ev0:Int) (fv1:Int) (p_0v1:Int) (p_1v1:Int) (q_0v1:Int) (q_1v1:Int):St:=⟨[(1,.one (.c (.p (.sl cv0.len 4 (fun i=>enc_37 (cv0.get i)))))),(2,.one (.c (.p (.int .i64 ev0)))),(3,.one (.c (.ptr 3 0))),(4,.one (.c (.ptr 4 0))),(5,.one (.c (.p (.int .i64 fv1))))],[(3,.box 25 [.p (.int .i64 p_0v1),.p (.int .i64 p_1v1)]),(4,.box 25 [.p (.int .i64 q_0v1),.p (.int .i64 q_1v1)])],[]⟩
def f18_at1 (K:List PA→Prop) (cv0:(Sl Line)) (ev0:Int) (fv1:Int) (p_0v1:Int) (p_1v1:Int) (q_0v1:Int) (q_1v1:Int):Prop:=vc Try.prog G18 ann18 (cdF Try.f18 [1,1,1]) (bodyK Try.prog Try.f18 K) (f18_g1 cv0 ev0 fv1 p_0v1 p_1v1 q_0v1 q_1v1)
def f18_g2 (cv0:(Sl Line)) (ev0:Int) (fv1:Int) (p_0v1:Int) (p_1v1:Int) (q_0v1:Int) (q_1v1:Int) (sv2_n:Nat) (sv2_g:Nat→List PV) (gv2:Int):St:=⟨[(1,.one (.c (.p (.sl cv0.len 4 (fun i=>enc_37 (cv0.get i)))))),(2,.one (.c (.p (.int .i64 ev0)))),(3,.one (.c (.ptr 3 0))),(4,.one (.c (.ptr 4 0))),(5,.one (.c (.p (.int .i64 fv1)))),(6,.one (.c (.p (.sl sv2_n 1 sv2_g)))),(7,.one (.c (.p (.int .i64 gv2))))],[(3,.box 25 [.p (.int .i64 p_0v1),.p (.int .i64 p_1v1)]),(4,.box 25 [.p (.int .i64 q_0v1),.p (.int .i64 q_1v1)])],[]⟩
def f18_at2 (K:List PA→Prop) (cv0:(Sl Line)) (ev0:Int) (fv1:Int) (p_0v1:Int) (p_1v1:Int) (q_0v1:Int) (q_1v1:Int) (sv2_n:Nat) (sv2_g:Nat→List PV) (gv2:Int):Prop:=vc Try.prog G18 ann18 (cdF Try.f18 [1,1,1,1]) (bodyK Try.prog Try.f18 K) (f18_g2 cv0 ev0 fv1 p_0v1 p_1v1 q_0v1 q_1v1 sv2_n sv2_g gv2)
def f18_g3 (cv0:(Sl Line)) (ev0:Int) (fv1:Int) (p_0v1:Int) (p_1v1:Int) (q_0v1:Int) (q_1v1:Int) (gv2:Int) (sv3_n:Nat) (sv3_g:Nat→List PV) (zv3:Int) (hv3:Int) (r_0v3:Int) (r_1v3:Int) (t_0v3:Int) (t_1v3:Int):St:=⟨[(1,.one (.c (.p (.sl cv0.len 4 (fun i=>enc_37 (cv0.get i)))))),(2,.one (.c (.p (.int .i64 ev0)))),(3,.one (.c (.ptr 3 0))),(4,.one (.c (.ptr 4 0))),(5,.one (.c (.p (.int .i64 fv1)))),(6,.one (.c (.p (.sl sv3_n 1 sv3_g)))),(7,.one (.c (.p (.int .i64 gv2)))),(8,.one (.c (.p (.int .i64 zv3)))),(9,.one (.c (.ptr 9 0))),(10,.one (.c (.ptr 10 0))),(11,.one (.c (.p (.int .i64 hv3))))],[(3,.box 25 [.p (.int .i64 p_0v1),.p (.int .i64 p_1v1)]),(4,.box 25 [.p (.int .i64 q_0v1),.p (.int .i64 q_1v1)]),(9,.box 25 [.p (.int .i64 r_0v3),.p (.int .i64 r_1v3)]),(10,.box 25 [.p (.int .i64 t_0v3),.p (.int .i64 t_1v3)])],[]⟩
def f18_at3 (K:List PA→Prop) (cv0:(Sl Line)) (ev0:Int) (fv1:Int) (p_0v1:Int) (p_1v1:Int) (q_0v1:Int) (q_1v1:Int) (gv2:Int) (sv3_n:Nat) (sv3_g:Nat→List PV) (zv3:Int) (hv3:Int) (r_0v3:Int) (r_1v3:Int) (t_0v3:Int) (t_1v3:Int):Prop:=vc Try.prog G18 ann18 (cdF Try.f18 [1,1,1,1,1]) (bodyK Try.prog Try.f18 K) (f18_g3 cv0 ev0 fv1 p_0v1 p_1v1 q_0v1 q_1v1 gv2 sv3_n sv3_g zv3 hv3 r_0v3 r_1v3 t_0v3 t_1v3)
def f18_g4 (cv0:(Sl Line)) (ev0:Int) (fv1:Int) (p_0v1:Int) (p_1v1:Int) (q_0v1:Int) (q_1v1:Int) (gv2:Int) (zv3:Int) (hv3:Int) (r_0v3:Int) (r_1v3:Int) (t_0v3:Int) (t_1v3:Int) (sv4_n:Nat) (sv4_g:Nat→List PV) (lv4_n:Nat) (lv4_g:Nat→List PV) (kv4:Int) (iv4:Int):St:=⟨[(1,.one (.c (.p (.sl cv0.len 4 (fun i=>enc_37 (cv0.get i)))))),(2,.one (.c (.p (.int .i64 ev0)))),(3,.one (.c (.ptr 3 0))),(4,.one (.c (.ptr 4 0))),(5,.one (.c (.p (.int .i64 fv1)))),(6,.one (.c (.p (.sl sv4_n 1 sv4_g)))),(7,.one (.c (.p (.int .i64 gv2)))),(8,.one (.c (.p (.int .i64 zv3)))),(9,.one (.c (.ptr 9 0))),(10,.one (.c (.ptr 10 0))),(11,.one (.c (.p (.int .i64 hv3)))),(12,.one (.c (.p (.sl lv4_n 1 lv4_g)))),(13,.one (.c (.p (.int .i64 kv4)))),(14,.one (.c (.p (.int .i64 iv4))))],[(3,.box 25 [.p (.int .i64 p_0v1),.p (.int .i64 p_1v1)]),(4,.box 25 [.p (.int .i64 q_0v1),.p (.int .i64 q_1v1)]),(9,.box 25 [.p (.int .i64 r_0v3),.p (.int .i64 r_1v3)]),(10,.box 25 [.p (.int .i64 t_0v3),.p (.int .i64 t_1v3)])],[]⟩
def f18_at4 (K:List PA→Prop) (cv0:(Sl Line)) (ev0:Int) (fv1:Int) (p_0v1:Int) (p_1v1:Int) (q_0v1:Int) (q_1v1:Int) (gv2:Int) (zv3:Int) (hv3:Int) (r_0v3:Int) (r_1v3:Int) (t_0v3:Int) (t_1v3:Int) (sv4_n:Nat) (sv4_g:Nat→List PV) (lv4_n:Nat) (lv4_g:Nat→List PV) (kv4:Int) (iv4:Int):Prop:=vc Try.prog G18 ann18 (cdF Try.f18 [1,1,1,1,1,1]) (bodyK Try.prog Try.f18 K) (f18_g4 cv0 ev0 fv1 p_0v1 p_1v1 q_0v1 q_1v1 gv2 zv3 hv3 r_0v3 r_1v3 t_0v3 t_1v3 sv4_n sv4_g lv4_n lv4_g kv4 iv4)
def f18_g5 (cv0:(Sl Line)) (p_0v1:Int) (p_1v1:Int) (q_0v1:Int) (q_1v1:Int) (r_0v3:Int) (r_1v3:Int) (t_0v3:Int) (t_1v3:Int) (lv4:(Sl Int)) (sv5_n:Nat) (sv5_g:Nat→List PV):St:=⟨[(1,.one (.c (.p (.sl cv0.len 4 (fun i=>enc_37 (cv0.get i)))))),(3,.one (.c (.ptr 3 0))),(4,.one (.c (.ptr 4 0))),(6,.one (.c (.p (.sl sv5_n 1 sv5_g)))),(9,.one (.c (.ptr 9 0))),(10,.one (.c (.ptr 10 0))),(12,.one (.c (.p (.sl lv4.len 1 (fun i=>enc_3 (lv4.get i))))))],[(3,.box 25 [.p (.int .i64 p_0v1),.p (.int .i64 p_1v1)]),(4,.box 25 [.p (.int .i64 q_0v1),.p (.int .i64 q_1v1)]),(9,.box 25 [.p (.int .i64 r_0v3),.p (.int .i64 r_1v3)]),(10,.box 25 [.p (.int .i64 t_0v3),.p (.int .i64 t_1v3)])],[]⟩
def f18_at5 (K:List PA→Prop) (cv0:(Sl Line)) (p_0v1:Int) (p_1v1:Int) (q_0v1:Int) (q_1v1:Int) (r_0v3:Int) (r_1v3:Int) (t_0v3:Int) (t_1v3:Int) (lv4:(Sl Int)) (sv5_n:Nat) (sv5_g:Nat→List PV):Prop:=vc Try.prog G18 ann18 (cdF Try.f18 [1,1,1,1,1,1,1]) (bodyK Try.prog Try.f18 K) (f18_g5 cv0 p_0v1 p_1v1 q_0v1 q_1v1 r_0v3 r_1v3 t_0v3 t_1v3 lv4 sv5_n sv5_g)
def f18_g6 (cv0:(Sl Line)) (p_0v1:Int) (p_1v1:Int) (q_0v1:Int) (q_1v1:Int) (r_0v3:Int) (r_1v3:Int) (t_0v3:Int) (t_1v3:Int) (lv4:(Sl Int)) (sv6_n:Nat) (sv6_g:Nat→List PV) (v89v6_n:Nat) (v89v6_g:Nat→List PV):St:=⟨[(1,.one (.c (.p (.sl cv0.len 4 (fun i=>enc_37 (cv0.get i)))))),(3,.one (.c (.ptr 3 0))),(4,.one (.c (.ptr 4 0))),(6,.one (.c (.p (.sl sv6_n 1 sv6_g)))),(9,.one (.c (.ptr 9 0))),(10,.one (.c (.ptr 10 0))),(12,.one (.c (.p (.sl lv4.len 1 (fun i=>enc_3 (lv4.get i)))))),(15,.one (.c (.vec 89)))],[(3,.box 25 [.p (.int .i64 p_0v1),.p (.int .i64 p_1v1)]),(4,.box 25 [.p (.int .i64 q_0v1),.p (.int .i64 q_1v1)]),(9,.box 25 [.p (.int .i64 r_0v3),.p (.int .i64 r_1v3)]),(10,.box 25 [.p (.int .i64 t_0v3),.p (.int .i64 t_1v3)]),(89,.vec 37 4 32 v89v6_n v89v6_g)],[]⟩
def f18_at6 (K:List PA→Prop) (cv0:(Sl Line)) (p_0v1:Int) (p_1v1:Int) (q_0v1:Int) (q_1v1:Int) (r_0v3:Int) (r_1v3:Int) (t_0v3:Int) (t_1v3:Int) (lv4:(Sl Int)) (sv6_n:Nat) (sv6_g:Nat→List PV) (v89v6_n:Nat) (v89v6_g:Nat→List PV):Prop:=vc Try.prog G18 ann18 (cdF Try.f18 [1,1,1,1,1,1,1,1]) (bodyK Try.prog Try.f18 K) (f18_g6 cv0 p_0v1 p_1v1 q_0v1 q_1v1 r_0v3 r_1v3 t_0v3 t_1v3 lv4 sv6_n sv6_g v89v6_n v89v6_g)
theorem f18_top (K : List PA → Prop) :
  vcFun Try.prog G18 ann18 18 [] K =
  ((IsE enc_55 3 3 (fun i=>enc_55 (s62.get i))∧(p31 s62=true)) ∧
  (f18_at0 K (((s31 s62).1).len) (fun i=>enc_37 (((s31 s62).1).get i)) ((s31 s62).2))):=by kernel_rfl
theorem f18_eq0 (K : List PA → Prop) (cv0 : (Sl Line)) (ev0 : Int) :
  f18_at0 K cv0.len (fun i=>enc_37 (cv0.get i)) ev0 =
  ((IsE enc_55 3 3 (fun i=>enc_55 (s62.get i))∧(p30 s62 (300:Int)=true)) ∧
  (f18_at1 K cv0 ev0 ((s30 s62 (300:Int)).2.2) (((s30 s62 (300:Int)).1).Num) (((s30 s62 (300:Int)).1).Den) (((s30 s62 (300:Int)).2.1).Num) (((s30 s62 (300:Int)).2.1).Den))):=by kernel_rfl
theorem f18_eq1 (K : List PA → Prop) (cv0 : (Sl Line)) (ev0 : Int) (fv1 : Int) (p_0v1 : Int) (p_1v1 : Int) (q_0v1 : Int) (q_1v1 : Int) :
  f18_at1 K cv0 ev0 fv1 p_0v1 p_1v1 q_0v1 q_1v1 =
  ((IsE enc_55 3 3 (fun i=>enc_55 (s63.get i))∧(p38 s63=true)) ∧
  (f18_at2 K cv0 ev0 fv1 p_0v1 p_1v1 q_0v1 q_1v1 (((s38 s63).1).len) (fun i=>enc_3 (((s38 s63).1).get i)) ((s38 s63).2))):=by kernel_rfl
theorem f18_eq2 (K : List PA → Prop) (cv0 : (Sl Line)) (ev0 : Int) (fv1 : Int) (p_0v1 : Int) (p_1v1 : Int) (q_0v1 : Int) (q_1v1 : Int) (sv2 : (Sl Int)) (gv2 : Int) :
  f18_at2 K cv0 ev0 fv1 p_0v1 p_1v1 q_0v1 q_1v1 sv2.len (fun i=>enc_3 (sv2.get i)) gv2 =
  ((IsE enc_55 3 3 (fun i=>enc_55 (s62.get i))∧IsE enc_55 3 3 (getL [(enc_55 (⟨(0:Int),(100:Int),(110:Int)⟩:Gate)),(enc_55 (⟨(200:Int),(40:Int),(50:Int)⟩:Gate))])∧(p19 s62 (⟨2,decF_55 (getL [(enc_55 (⟨(0:Int),(100:Int),(110:Int)⟩:Gate)),(enc_55 (⟨(200:Int),(40:Int),(50:Int)⟩:Gate))])⟩:(Sl Gate)) (0:Int) (300:Int)=true)) ∧
  (f18_at3 K cv0 ev0 fv1 p_0v1 p_1v1 q_0v1 q_1v1 gv2 sv2.len (fun i=>enc_3 (sv2.get i)) ((s19 s62 (⟨2,decF_55 (getL [(enc_55 (⟨(0:Int),(100:Int),(110:Int)⟩:Gate)),(enc_55 (⟨(200:Int),(40:Int),(50:Int)⟩:Gate))])⟩:(Sl Gate)) (0:Int) (300:Int)).1) ((s19 s62 (⟨2,decF_55 (getL [(enc_55 (⟨(0:Int),(100:Int),(110:Int)⟩:Gate)),(enc_55 (⟨(200:Int),(40:Int),(50:Int)⟩:Gate))])⟩:(Sl Gate)) (0:Int) (300:Int)).2.2.2) (((s19 s62 (⟨2,decF_55 (getL [(enc_55 (⟨(0:Int),(100:Int),(110:Int)⟩:Gate)),(enc_55 (⟨(200:Int),(40:Int),(50:Int)⟩:Gate))])⟩:(Sl Gate)) (0:Int) (300:Int)).2.1).Num) (((s19 s62 (⟨2,decF_55 (getL [(enc_55 (⟨(0:Int),(100:Int),(110:Int)⟩:Gate)),(enc_55 (⟨(200:Int),(40:Int),(50:Int)⟩:Gate))])⟩:(Sl Gate)) (0:Int) (300:Int)).2.1).Den) (((s19 s62 (⟨2,decF_55 (getL [(enc_55 (⟨(0:Int),(100:Int),(110:Int)⟩:Gate)),(enc_55 (⟨(200:Int),(40:Int),(50:Int)⟩:Gate))])⟩:(Sl Gate)) (0:Int) (300:Int)).2.2.1).Num) (((s19 s62 (⟨2,decF_55 (getL [(enc_55 (⟨(0:Int),(100:Int),(110:Int)⟩:Gate)),(enc_55 (⟨(200:Int),(40:Int),(50:Int)⟩:Gate))])⟩:(Sl Gate)) (0:Int) (300:Int)).2.2.1).Den))):=by kernel_rfl
theorem f18_eq3 (K : List PA → Prop) (cv0 : (Sl Line)) (ev0 : Int) (fv1 : Int) (p_0v1 : Int) (p_1v1 : Int) (q_0v1 : Int) (q_1v1 : Int) (gv2 : Int) (sv3 : (Sl Int)) (zv3 : Int) (hv3 : Int) (r_0v3 : Int) (r_1v3 : Int) (t_0v3 : Int) (t_1v3 : Int) :
  f18_at3 K cv0 ev0 fv1 p_0v1 p_1v1 q_0v1 q_1v1 gv2 sv3.len (fun i=>enc_3 (sv3.get i)) zv3 hv3 r_0v3 r_1v3 t_0v3 t_1v3 =
  ((IsE enc_55 3 3 (getL [(enc_55 (⟨(0:Int),(0:Int),(2:Int)⟩:Gate)),(enc_55 (⟨(10:Int),(5:Int),(6:Int)⟩:Gate)),(enc_55 (⟨(20:Int),(0:Int),(2:Int)⟩:Gate))])∧(p55 (⟨3,decF_55 (getL [(enc_55 (⟨(0:Int),(0:Int),(2:Int)⟩:Gate)),(enc_55 (⟨(10:Int),(5:Int),(6:Int)⟩:Gate)),(enc_55 (⟨(20:Int),(0:Int),(2:Int)⟩:Gate))])⟩:(Sl Gate))=true)) ∧
  (f18_at4 K cv0 ev0 fv1 p_0v1 p_1v1 q_0v1 q_1v1 gv2 zv3 hv3 r_0v3 r_1v3 t_0v3 t_1v3 sv3.len (fun i=>enc_3 (sv3.get i)) (((s55 (⟨3,decF_55 (getL [(enc_55 (⟨(0:Int),(0:Int),(2:Int)⟩:Gate)),(enc_55 (⟨(10:Int),(5:Int),(6:Int)⟩:Gate)),(enc_55 (⟨(20:Int),(0:Int),(2:Int)⟩:Gate))])⟩:(Sl Gate))).1).len) (fun i=>enc_3 (((s55 (⟨3,decF_55 (getL [(enc_55 (⟨(0:Int),(0:Int),(2:Int)⟩:Gate)),(enc_55 (⟨(10:Int),(5:Int),(6:Int)⟩:Gate)),(enc_55 (⟨(20:Int),(0:Int),(2:Int)⟩:Gate))])⟩:(Sl Gate))).1).get i)) ((s55 (⟨3,decF_55 (getL [(enc_55 (⟨(0:Int),(0:Int),(2:Int)⟩:Gate)),(enc_55 (⟨(10:Int),(5:Int),(6:Int)⟩:Gate)),(enc_55 (⟨(20:Int),(0:Int),(2:Int)⟩:Gate))])⟩:(Sl Gate))).2.1) ((s55 (⟨3,decF_55 (getL [(enc_55 (⟨(0:Int),(0:Int),(2:Int)⟩:Gate)),(enc_55 (⟨(10:Int),(5:Int),(6:Int)⟩:Gate)),(enc_55 (⟨(20:Int),(0:Int),(2:Int)⟩:Gate))])⟩:(Sl Gate))).2.2))):=by kernel_rfl
theorem f18_eq4 (K : List PA → Prop) (cv0 : (Sl Line)) (ev0 : Int) (fv1 : Int) (p_0v1 : Int) (p_1v1 : Int) (q_0v1 : Int) (q_1v1 : Int) (gv2 : Int) (zv3 : Int) (hv3 : Int) (r_0v3 : Int) (r_1v3 : Int) (t_0v3 : Int) (t_1v3 : Int) (sv4 : (Sl Int)) (lv4 : (Sl Int)) (kv4 : Int) (iv4 : Int) :
  f18_at4 K cv0 ev0 fv1 p_0v1 p_1v1 q_0v1 q_1v1 gv2 zv3 hv3 r_0v3 r_1v3 t_0v3 t_1v3 sv4.len (fun i=>enc_3 (sv4.get i)) lv4.len (fun i=>enc_3 (lv4.get i)) kv4 iv4 =
  (condP (ev0 != (0:Int))
   (K [.one (.bool false)])
   (condP (fv1 != (0:Int))
    (K [.one (.bool false)])
    (condP (gv2 != (0:Int))
     (K [.one (.bool false)])
     (condP (hv3 != (0:Int))
      (K [.one (.bool false)])
      (condP (iv4 != (0:Int))
       (K [.one (.bool false)])
       (condP (kv4 != (600:Int))
        (K [.one (.bool false)])
        (condP (zv3 != (167:Int))
         (K [.one (.bool false)])
         (f18_at5 K cv0 p_0v1 p_1v1 q_0v1 q_1v1 r_0v3 r_1v3 t_0v3 t_1v3 lv4 sv4.len (fun i=>enc_3 (sv4.get i)))))))))):=by kernel_rfl
theorem f18_eq5 (K : List PA → Prop) (cv0 : (Sl Line)) (p_0v1 : Int) (p_1v1 : Int) (q_0v1 : Int) (q_1v1 : Int) (r_0v3 : Int) (r_1v3 : Int) (t_0v3 : Int) (t_1v3 : Int) (lv4 : (Sl Int)) (sv5 : (Sl Int)) :
  f18_at5 K cv0 p_0v1 p_1v1 q_0v1 q_1v1 r_0v3 r_1v3 t_0v3 t_1v3 lv4 sv5.len (fun i=>enc_3 (sv5.get i)) =
  (((p40 (1:Int) (10:Int)=true)) ∧
  (((p40 (10:Int) (1:Int)=true)) ∧
  (((p40 (1:Int) (5:Int)=true)) ∧
  (((p40 (0:Int) (1:Int)=true)) ∧
  (((p40 (3:Int) (10:Int)=true)) ∧
  (((p40 (0:Int) (1:Int)=true)) ∧
  (((p40 (1:Int) (5:Int)=true)) ∧
  (((p40 (10:Int) (1:Int)=true)) ∧
  (f18_at6 K cv0 p_0v1 p_1v1 q_0v1 q_1v1 r_0v3 r_1v3 t_0v3 t_1v3 lv4 sv5.len (fun i=>enc_3 (sv5.get i)) 4 (getL [(enc_37 (⟨(s40 (1:Int) (10:Int)),(s40 (10:Int) (1:Int))⟩:Line)),(enc_37 (⟨(s40 (1:Int) (5:Int)),(s40 (0:Int) (1:Int))⟩:Line)),(enc_37 (⟨(s40 (3:Int) (10:Int)),(s40 (0:Int) (1:Int))⟩:Line)),(enc_37 (⟨(s40 (1:Int) (5:Int)),(s40 (10:Int) (1:Int))⟩:Line))])))))))))):=by kernel_rfl
theorem f18_eq6 (K : List PA → Prop) (cv0 : (Sl Line)) (p_0v1 : Int) (p_1v1 : Int) (q_0v1 : Int) (q_1v1 : Int) (r_0v3 : Int) (r_1v3 : Int) (t_0v3 : Int) (t_1v3 : Int) (lv4 : (Sl Int)) (sv6 : (Sl Int)) (v89v6 : (Sl Line)) :
  f18_at6 K cv0 p_0v1 p_1v1 q_0v1 q_1v1 r_0v3 r_1v3 t_0v3 t_1v3 lv4 sv6.len (fun i=>enc_3 (sv6.get i)) v89v6.len (fun i=>enc_37 (v89v6.get i)) =
  ((IsE enc_37 4 4 (fun i=>enc_37 (cv0.get i))∧IsE enc_37 4 4 (fun i=>enc_37 (v89v6.get i))∧(p34 cv0 v89v6=true)) ∧
  (condP (s34 cv0 v89v6)
   (((p40 (40:Int) (1:Int)=true)) ∧
   (condP (match (p_0v1 == (s40 (40:Int) (1:Int)).Num) with | true => (match (p_1v1 == (s40 (40:Int) (1:Int)).Den) with | true => true | false => false) | false => false)
    (((p40 (90:Int) (1:Int)=true)) ∧
    (condP (match (q_0v1 == (s40 (90:Int) (1:Int)).Num) with | true => (match (q_1v1 == (s40 (90:Int) (1:Int)).Den) with | true => true | false => false) | false => false)
     ((IsE enc_3 1 1 (fun i=>enc_3 (sv6.get i))∧IsE enc_3 1 1 (getL [(enc_3 (0:Int)),(enc_3 (1:Int)),(enc_3 (2:Int))])∧(p39 sv6 (⟨3,decF_3 (getL [(enc_3 (0:Int)),(enc_3 (1:Int)),(enc_3 (2:Int))])⟩:(Sl Int))=true)) ∧
     (condP ((s39 sv6 (⟨3, decF_3 (getL [(enc_3 (0:Int)), (enc_3 (1:Int)), (enc_3 (2:Int))])⟩ : (Sl Int))) == (0:Int))
      (((p40 (499:Int) (10:Int)=true)) ∧
      (condP (match (r_0v3 == (s40 (499:Int) (10:Int)).Num) with | true => (match (r_1v3 == (s40 (499:Int) (10:Int)).Den) with | true => true | false => false) | false => false)
       (((p40 (501:Int) (10:Int)=true)) ∧
       (condP (match (t_0v3 == (s40 (501:Int) (10:Int)).Num) with | true => (match (t_1v3 == (s40 (501:Int) (10:Int)).Den) with | true => true | false => false) | false => false)
        ((IsE enc_3 1 1 (fun i=>enc_3 (lv4.get i))∧IsE enc_3 1 1 (getL [(enc_3 (2:Int)),(enc_3 (5:Int)),(enc_3 (2:Int))])∧(p39 lv4 (⟨3,decF_3 (getL [(enc_3 (2:Int)),(enc_3 (5:Int)),(enc_3 (2:Int))])⟩:(Sl Int))=true)) ∧
        (K [.one (.bool ((s39 lv4 (⟨3,decF_3 (getL [(enc_3 (2:Int)),(enc_3 (5:Int)),(enc_3 (2:Int))])⟩:(Sl Int))) == (0:Int)))]))
        (K [.one (.bool false)])))
       (K [.one (.bool false)])))
      (K [.one (.bool false)])))
     (K [.one (.bool false)])))
    (K [.one (.bool false)])))
   (K [.one (.bool false)]))):=by kernel_rfl
abbrev e18 (r:Bool):List PA:=[.one (.bool r)]
attribute [irreducible] f18_at0 f18_at1 f18_at2 f18_at3 f18_at4 f18_at5 f18_at6
def s18_at6 (cv0:(Sl Line)) (p_0v1:Int) (p_1v1:Int) (q_0v1:Int) (q_1v1:Int) (r_0v3:Int) (r_1v3:Int) (t_0v3:Int) (t_1v3:Int) (lv4:(Sl Int)) (sv6:(Sl Int)) (v89v6:(Sl Line)):Bool :=
  (cond (s34 cv0 v89v6)
   (cond (match (p_0v1 == (s40 (40:Int) (1:Int)).Num) with | true => (match (p_1v1 == (s40 (40:Int) (1:Int)).Den) with | true => true | false => false) | false => false)
    (cond (match (q_0v1 == (s40 (90:Int) (1:Int)).Num) with | true => (match (q_1v1 == (s40 (90:Int) (1:Int)).Den) with | true => true | false => false) | false => false)
     (cond ((s39 sv6 (⟨3, decF_3 (getL [(enc_3 (0:Int)), (enc_3 (1:Int)), (enc_3 (2:Int))])⟩ : (Sl Int))) == (0:Int))
      (cond (match (r_0v3 == (s40 (499:Int) (10:Int)).Num) with | true => (match (r_1v3 == (s40 (499:Int) (10:Int)).Den) with | true => true | false => false) | false => false)
       (cond (match (t_0v3 == (s40 (501:Int) (10:Int)).Num) with | true => (match (t_1v3 == (s40 (501:Int) (10:Int)).Den) with | true => true | false => false) | false => false)
        ((s39 lv4 (⟨3,decF_3 (getL [(enc_3 (2:Int)),(enc_3 (5:Int)),(enc_3 (2:Int))])⟩:(Sl Int))) == (0:Int))
        false)
       false)
      false)
     false)
    false)
   false)
def p18_at6 (cv0:(Sl Line)) (p_0v1:Int) (p_1v1:Int) (q_0v1:Int) (q_1v1:Int) (r_0v3:Int) (r_1v3:Int) (t_0v3:Int) (t_1v3:Int) (lv4:(Sl Int)) (sv6:(Sl Int)) (v89v6:(Sl Line)):Bool :=
  (decide ((p34 cv0 v89v6=true)) &&
  (cond (s34 cv0 v89v6)
   (decide ((p40 (40:Int) (1:Int)=true)) &&
   (cond (match (p_0v1 == (s40 (40:Int) (1:Int)).Num) with | true => (match (p_1v1 == (s40 (40:Int) (1:Int)).Den) with | true => true | false => false) | false => false)
    (decide ((p40 (90:Int) (1:Int)=true)) &&
    (cond (match (q_0v1 == (s40 (90:Int) (1:Int)).Num) with | true => (match (q_1v1 == (s40 (90:Int) (1:Int)).Den) with | true => true | false => false) | false => false)
     (decide ((p39 sv6 (⟨3,decF_3 (getL [(enc_3 (0:Int)),(enc_3 (1:Int)),(enc_3 (2:Int))])⟩:(Sl Int))=true)) &&
     (cond ((s39 sv6 (⟨3, decF_3 (getL [(enc_3 (0:Int)), (enc_3 (1:Int)), (enc_3 (2:Int))])⟩ : (Sl Int))) == (0:Int))
      (decide ((p40 (499:Int) (10:Int)=true)) &&
      (cond (match (r_0v3 == (s40 (499:Int) (10:Int)).Num) with | true => (match (r_1v3 == (s40 (499:Int) (10:Int)).Den) with | true => true | false => false) | false => false)
       (decide ((p40 (501:Int) (10:Int)=true)) &&
       (cond (match (t_0v3 == (s40 (501:Int) (10:Int)).Num) with | true => (match (t_1v3 == (s40 (501:Int) (10:Int)).Den) with | true => true | false => false) | false => false)
        (decide ((p39 lv4 (⟨3,decF_3 (getL [(enc_3 (2:Int)),(enc_3 (5:Int)),(enc_3 (2:Int))])⟩:(Sl Int))=true)) &&
        true)
        true))
       true))
      true))
     true))
    true))
   true))
theorem q18_at6 (K:List PA→Prop) (cv0:(Sl Line)) (p_0v1:Int) (p_1v1:Int) (q_0v1:Int) (q_1v1:Int) (r_0v3:Int) (r_1v3:Int) (t_0v3:Int) (t_1v3:Int) (lv4:(Sl Int)) (sv6:(Sl Int)) (v89v6:(Sl Line)) (sv6_g:Nat→List PV) (sv6_h:sv6_g=fun i=>enc_3 (sv6.get i)) (v89v6_g:Nat→List PV) (v89v6_h:v89v6_g=fun i=>enc_37 (v89v6.get i)) (hs:p18_at6 cv0 p_0v1 p_1v1 q_0v1 q_1v1 r_0v3 r_1v3 t_0v3 t_1v3 lv4 sv6 v89v6=true) (hk:K (e18 (s18_at6 cv0 p_0v1 p_1v1 q_0v1 q_1v1 r_0v3 r_1v3 t_0v3 t_1v3 lv4 sv6 v89v6))):f18_at6 K cv0 p_0v1 p_1v1 q_0v1 q_1v1 r_0v3 r_1v3 t_0v3 t_1v3 lv4 sv6.len sv6_g v89v6.len v89v6_g:=by
  subst sv6_h
  subst v89v6_h
  refine ofEq (f18_eq6 K cv0 p_0v1 p_1v1 q_0v1 q_1v1 r_0v3 r_1v3 t_0v3 t_1v3 lv4 sv6 v89v6) ?_
  unfold p18_at6 at hs
  unfold s18_at6 at hk
  exact (andK hs fun hc hs => ⟨⟨isE, isE, hc⟩, (condB_go (K := fun r => K (e18 r))
   (fun hs hk => (andK hs fun hc hs => ⟨hc, (condB_go (K := fun r => K (e18 r))
    (fun hs hk => (andK hs fun hc hs => ⟨hc, (condB_go (K := fun r => K (e18 r))
     (fun hs hk => (andK hs fun hc hs => ⟨⟨isE, (isE_list [(2:Int)]), hc⟩, (condB_go (K := fun r => K (e18 r))
      (fun hs hk => (andK hs fun hc hs => ⟨hc, (condB_go (K := fun r => K (e18 r))
       (fun hs hk => (andK hs fun hc hs => ⟨hc, (condB_go (K := fun r => K (e18 r))
        (fun hs hk=>(andK hs fun hc hs=>⟨⟨isE,(isE_list [(2:Int)]),hc⟩,hk⟩))
        (fun hs hk=>hk) hs hk)⟩))
       (fun hs hk=>hk) hs hk)⟩))
      (fun hs hk=>hk) hs hk)⟩))
     (fun hs hk=>hk) hs hk)⟩))
    (fun hs hk=>hk) hs hk)⟩))
   (fun hs hk=>hk) hs hk)⟩)
def s18_at5 (cv0:(Sl Line)) (p_0v1:Int) (p_1v1:Int) (q_0v1:Int) (q_1v1:Int) (r_0v3:Int) (r_1v3:Int) (t_0v3:Int) (t_1v3:Int) (lv4:(Sl Int)) (sv5:(Sl Int)):Bool :=
  (s18_at6 cv0 p_0v1 p_1v1 q_0v1 q_1v1 r_0v3 r_1v3 t_0v3 t_1v3 lv4 sv5 (⟨4,(getT (⟨(s40 (1:Int) (10:Int)),(s40 (10:Int) (1:Int))⟩:Line) [(⟨(s40 (1:Int) (10:Int)),(s40 (10:Int) (1:Int))⟩:Line),(⟨(s40 (1:Int) (5:Int)),(s40 (0:Int) (1:Int))⟩:Line),(⟨(s40 (3:Int) (10:Int)),(s40 (0:Int) (1:Int))⟩:Line),(⟨(s40 (1:Int) (5:Int)),(s40 (10:Int) (1:Int))⟩:Line)])⟩:Sl Line))
def p18_at5 (cv0:(Sl Line)) (p_0v1:Int) (p_1v1:Int) (q_0v1:Int) (q_1v1:Int) (r_0v3:Int) (r_1v3:Int) (t_0v3:Int) (t_1v3:Int) (lv4:(Sl Int)) (sv5:(Sl Int)):Bool :=
  (decide ((p40 (1:Int) (10:Int)=true)) &&
  (decide ((p40 (10:Int) (1:Int)=true)) &&
  (decide ((p40 (1:Int) (5:Int)=true)) &&
  (decide ((p40 (0:Int) (1:Int)=true)) &&
  (decide ((p40 (3:Int) (10:Int)=true)) &&
  (decide ((p40 (0:Int) (1:Int)=true)) &&
  (decide ((p40 (1:Int) (5:Int)=true)) &&
  (decide ((p40 (10:Int) (1:Int)=true)) &&
  (p18_at6 cv0 p_0v1 p_1v1 q_0v1 q_1v1 r_0v3 r_1v3 t_0v3 t_1v3 lv4 sv5 (⟨4,(getT (⟨(s40 (1:Int) (10:Int)),(s40 (10:Int) (1:Int))⟩:Line) [(⟨(s40 (1:Int) (10:Int)),(s40 (10:Int) (1:Int))⟩:Line),(⟨(s40 (1:Int) (5:Int)),(s40 (0:Int) (1:Int))⟩:Line),(⟨(s40 (3:Int) (10:Int)),(s40 (0:Int) (1:Int))⟩:Line),(⟨(s40 (1:Int) (5:Int)),(s40 (10:Int) (1:Int))⟩:Line)])⟩:Sl Line))))))))))
theorem q18_at5 (K:List PA→Prop) (cv0:(Sl Line)) (p_0v1:Int) (p_1v1:Int) (q_0v1:Int) (q_1v1:Int) (r_0v3:Int) (r_1v3:Int) (t_0v3:Int) (t_1v3:Int) (lv4:(Sl Int)) (sv5:(Sl Int)) (sv5_g:Nat→List PV) (sv5_h:sv5_g=fun i=>enc_3 (sv5.get i)) (hs:p18_at5 cv0 p_0v1 p_1v1 q_0v1 q_1v1 r_0v3 r_1v3 t_0v3 t_1v3 lv4 sv5=true) (hk:K (e18 (s18_at5 cv0 p_0v1 p_1v1 q_0v1 q_1v1 r_0v3 r_1v3 t_0v3 t_1v3 lv4 sv5))):f18_at5 K cv0 p_0v1 p_1v1 q_0v1 q_1v1 r_0v3 r_1v3 t_0v3 t_1v3 lv4 sv5.len sv5_g:=by
  subst sv5_h
  refine ofEq (f18_eq5 K cv0 p_0v1 p_1v1 q_0v1 q_1v1 r_0v3 r_1v3 t_0v3 t_1v3 lv4 sv5) ?_
  unfold p18_at5 at hs
  unfold s18_at5 at hk
  exact (andK hs fun hc hs=>⟨hc,(andK hs fun hc hs=>⟨hc,(andK hs fun hc hs=>⟨hc,(andK hs fun hc hs=>⟨hc,(andK hs fun hc hs=>⟨hc,(andK hs fun hc hs=>⟨hc,(andK hs fun hc hs=>⟨hc,(andK hs fun hc hs=>⟨hc,(q18_at6 K cv0 p_0v1 p_1v1 q_0v1 q_1v1 r_0v3 r_1v3 t_0v3 t_1v3 lv4 sv5 (⟨4,(getT (⟨(s40 (1:Int) (10:Int)),(s40 (10:Int) (1:Int))⟩:Line) [(⟨(s40 (1:Int) (10:Int)),(s40 (10:Int) (1:Int))⟩:Line),(⟨(s40 (1:Int) (5:Int)),(s40 (0:Int) (1:Int))⟩:Line),(⟨(s40 (3:Int) (10:Int)),(s40 (0:Int) (1:Int))⟩:Line),(⟨(s40 (1:Int) (5:Int)),(s40 (10:Int) (1:Int))⟩:Line)])⟩:Sl Line) (fun i=>enc_3 (sv5.get i)) rfl (getL [(enc_37 (⟨(s40 (1:Int) (10:Int)),(s40 (10:Int) (1:Int))⟩:Line)),(enc_37 (⟨(s40 (1:Int) (5:Int)),(s40 (0:Int) (1:Int))⟩:Line)),(enc_37 (⟨(s40 (3:Int) (10:Int)),(s40 (0:Int) (1:Int))⟩:Line)),(enc_37 (⟨(s40 (1:Int) (5:Int)),(s40 (10:Int) (1:Int))⟩:Line))]) (getL_enc (enc:=enc_37) (x:=(⟨(s40 (1:Int) (10:Int)),(s40 (10:Int) (1:Int))⟩:Line)) (y:=(⟨(s40 (1:Int) (5:Int)),(s40 (0:Int) (1:Int))⟩:Line)) (r:=[(⟨(s40 (3:Int) (10:Int)),(s40 (0:Int) (1:Int))⟩:Line),(⟨(s40 (1:Int) (5:Int)),(s40 (10:Int) (1:Int))⟩:Line)])) hs hk)⟩)⟩)⟩)⟩)⟩)⟩)⟩)⟩)
def s18_at4 (cv0:(Sl Line)) (ev0:Int) (fv1:Int) (p_0v1:Int) (p_1v1:Int) (q_0v1:Int) (q_1v1:Int) (gv2:Int) (zv3:Int) (hv3:Int) (r_0v3:Int) (r_1v3:Int) (t_0v3:Int) (t_1v3:Int) (sv4:(Sl Int)) (lv4:(Sl Int)) (kv4:Int) (iv4:Int):Bool :=
  (cond (ev0 != (0:Int))
   false
   (cond (fv1 != (0:Int))
    false
    (cond (gv2 != (0:Int))
     false
     (cond (hv3 != (0:Int))
      false
      (cond (iv4 != (0:Int))
       false
       (cond (kv4 != (600:Int))
        false
        (cond (zv3 != (167:Int))
         false
         (s18_at5 cv0 p_0v1 p_1v1 q_0v1 q_1v1 r_0v3 r_1v3 t_0v3 t_1v3 lv4 sv4))))))))
def p18_at4 (cv0:(Sl Line)) (ev0:Int) (fv1:Int) (p_0v1:Int) (p_1v1:Int) (q_0v1:Int) (q_1v1:Int) (gv2:Int) (zv3:Int) (hv3:Int) (r_0v3:Int) (r_1v3:Int) (t_0v3:Int) (t_1v3:Int) (sv4:(Sl Int)) (lv4:(Sl Int)) (kv4:Int) (iv4:Int):Bool :=
  (cond (ev0 != (0:Int))
   true
   (cond (fv1 != (0:Int))
    true
    (cond (gv2 != (0:Int))
     true
     (cond (hv3 != (0:Int))
      true
      (cond (iv4 != (0:Int))
       true
       (cond (kv4 != (600:Int))
        true
        (cond (zv3 != (167:Int))
         true
         (p18_at5 cv0 p_0v1 p_1v1 q_0v1 q_1v1 r_0v3 r_1v3 t_0v3 t_1v3 lv4 sv4))))))))
theorem q18_at4 (K:List PA→Prop) (cv0:(Sl Line)) (ev0:Int) (fv1:Int) (p_0v1:Int) (p_1v1:Int) (q_0v1:Int) (q_1v1:Int) (gv2:Int) (zv3:Int) (hv3:Int) (r_0v3:Int) (r_1v3:Int) (t_0v3:Int) (t_1v3:Int) (sv4:(Sl Int)) (lv4:(Sl Int)) (kv4:Int) (iv4:Int) (sv4_g:Nat→List PV) (sv4_h:sv4_g=fun i=>enc_3 (sv4.get i)) (lv4_g:Nat→List PV) (lv4_h:lv4_g=fun i=>enc_3 (lv4.get i)) (hs:p18_at4 cv0 ev0 fv1 p_0v1 p_1v1 q_0v1 q_1v1 gv2 zv3 hv3 r_0v3 r_1v3 t_0v3 t_1v3 sv4 lv4 kv4 iv4=true) (hk:K (e18 (s18_at4 cv0 ev0 fv1 p_0v1 p_1v1 q_0v1 q_1v1 gv2 zv3 hv3 r_0v3 r_1v3 t_0v3 t_1v3 sv4 lv4 kv4 iv4))):f18_at4 K cv0 ev0 fv1 p_0v1 p_1v1 q_0v1 q_1v1 gv2 zv3 hv3 r_0v3 r_1v3 t_0v3 t_1v3 sv4.len sv4_g lv4.len lv4_g kv4 iv4:=by
  subst sv4_h
  subst lv4_h
  refine ofEq (f18_eq4 K cv0 ev0 fv1 p_0v1 p_1v1 q_0v1 q_1v1 gv2 zv3 hv3 r_0v3 r_1v3 t_0v3 t_1v3 sv4 lv4 kv4 iv4) ?_
  unfold p18_at4 at hs
  unfold s18_at4 at hk
  exact (condB_go (K := fun r => K (e18 r))
   (fun hs hk=>hk)
   (fun hs hk => (condB_go (K := fun r => K (e18 r))
    (fun hs hk=>hk)
    (fun hs hk => (condB_go (K := fun r => K (e18 r))
     (fun hs hk=>hk)
     (fun hs hk => (condB_go (K := fun r => K (e18 r))
      (fun hs hk=>hk)
      (fun hs hk => (condB_go (K := fun r => K (e18 r))
       (fun hs hk=>hk)
       (fun hs hk => (condB_go (K := fun r => K (e18 r))
        (fun hs hk=>hk)
        (fun hs hk => (condB_go (K := fun r => K (e18 r))
         (fun hs hk=>hk)
         (fun hs hk=>(q18_at5 K cv0 p_0v1 p_1v1 q_0v1 q_1v1 r_0v3 r_1v3 t_0v3 t_1v3 lv4 sv4 (fun i=>enc_3 (sv4.get i)) rfl hs hk)) hs hk)) hs hk)) hs hk)) hs hk)) hs hk)) hs hk)) hs hk)
def s18_at3 (cv0:(Sl Line)) (ev0:Int) (fv1:Int) (p_0v1:Int) (p_1v1:Int) (q_0v1:Int) (q_1v1:Int) (gv2:Int) (sv3:(Sl Int)) (zv3:Int) (hv3:Int) (r_0v3:Int) (r_1v3:Int) (t_0v3:Int) (t_1v3:Int):Bool :=
  (s18_at4 cv0 ev0 fv1 p_0v1 p_1v1 q_0v1 q_1v1 gv2 zv3 hv3 r_0v3 r_1v3 t_0v3 t_1v3 sv3 ((s55 (⟨3,decF_55 (getL [(enc_55 (⟨(0:Int),(0:Int),(2:Int)⟩:Gate)),(enc_55 (⟨(10:Int),(5:Int),(6:Int)⟩:Gate)),(enc_55 (⟨(20:Int),(0:Int),(2:Int)⟩:Gate))])⟩:(Sl Gate))).1) ((s55 (⟨3,decF_55 (getL [(enc_55 (⟨(0:Int),(0:Int),(2:Int)⟩:Gate)),(enc_55 (⟨(10:Int),(5:Int),(6:Int)⟩:Gate)),(enc_55 (⟨(20:Int),(0:Int),(2:Int)⟩:Gate))])⟩:(Sl Gate))).2.1) ((s55 (⟨3,decF_55 (getL [(enc_55 (⟨(0:Int),(0:Int),(2:Int)⟩:Gate)),(enc_55 (⟨(10:Int),(5:Int),(6:Int)⟩:Gate)),(enc_55 (⟨(20:Int),(0:Int),(2:Int)⟩:Gate))])⟩:(Sl Gate))).2.2))
def p18_at3 (cv0:(Sl Line)) (ev0:Int) (fv1:Int) (p_0v1:Int) (p_1v1:Int) (q_0v1:Int) (q_1v1:Int) (gv2:Int) (sv3:(Sl Int)) (zv3:Int) (hv3:Int) (r_0v3:Int) (r_1v3:Int) (t_0v3:Int) (t_1v3:Int):Bool :=
  (decide ((p55 (⟨3,decF_55 (getL [(enc_55 (⟨(0:Int),(0:Int),(2:Int)⟩:Gate)),(enc_55 (⟨(10:Int),(5:Int),(6:Int)⟩:Gate)),(enc_55 (⟨(20:Int),(0:Int),(2:Int)⟩:Gate))])⟩:(Sl Gate))=true)) &&
  (p18_at4 cv0 ev0 fv1 p_0v1 p_1v1 q_0v1 q_1v1 gv2 zv3 hv3 r_0v3 r_1v3 t_0v3 t_1v3 sv3 ((s55 (⟨3,decF_55 (getL [(enc_55 (⟨(0:Int),(0:Int),(2:Int)⟩:Gate)),(enc_55 (⟨(10:Int),(5:Int),(6:Int)⟩:Gate)),(enc_55 (⟨(20:Int),(0:Int),(2:Int)⟩:Gate))])⟩:(Sl Gate))).1) ((s55 (⟨3,decF_55 (getL [(enc_55 (⟨(0:Int),(0:Int),(2:Int)⟩:Gate)),(enc_55 (⟨(10:Int),(5:Int),(6:Int)⟩:Gate)),(enc_55 (⟨(20:Int),(0:Int),(2:Int)⟩:Gate))])⟩:(Sl Gate))).2.1) ((s55 (⟨3,decF_55 (getL [(enc_55 (⟨(0:Int),(0:Int),(2:Int)⟩:Gate)),(enc_55 (⟨(10:Int),(5:Int),(6:Int)⟩:Gate)),(enc_55 (⟨(20:Int),(0:Int),(2:Int)⟩:Gate))])⟩:(Sl Gate))).2.2)))
theorem q18_at3 (K:List PA→Prop) (cv0:(Sl Line)) (ev0:Int) (fv1:Int) (p_0v1:Int) (p_1v1:Int) (q_0v1:Int) (q_1v1:Int) (gv2:Int) (sv3:(Sl Int)) (zv3:Int) (hv3:Int) (r_0v3:Int) (r_1v3:Int) (t_0v3:Int) (t_1v3:Int) (sv3_g:Nat→List PV) (sv3_h:sv3_g=fun i=>enc_3 (sv3.get i)) (hs:p18_at3 cv0 ev0 fv1 p_0v1 p_1v1 q_0v1 q_1v1 gv2 sv3 zv3 hv3 r_0v3 r_1v3 t_0v3 t_1v3=true) (hk:K (e18 (s18_at3 cv0 ev0 fv1 p_0v1 p_1v1 q_0v1 q_1v1 gv2 sv3 zv3 hv3 r_0v3 r_1v3 t_0v3 t_1v3))):f18_at3 K cv0 ev0 fv1 p_0v1 p_1v1 q_0v1 q_1v1 gv2 sv3.len sv3_g zv3 hv3 r_0v3 r_1v3 t_0v3 t_1v3:=by
  subst sv3_h
  refine ofEq (f18_eq3 K cv0 ev0 fv1 p_0v1 p_1v1 q_0v1 q_1v1 gv2 sv3 zv3 hv3 r_0v3 r_1v3 t_0v3 t_1v3) ?_
  unfold p18_at3 at hs
  unfold s18_at3 at hk
  exact (andK hs fun hc hs=>⟨⟨(isE_list [(⟨(20:Int),(0:Int),(2:Int)⟩:Gate)]),hc⟩,(q18_at4 K cv0 ev0 fv1 p_0v1 p_1v1 q_0v1 q_1v1 gv2 zv3 hv3 r_0v3 r_1v3 t_0v3 t_1v3 sv3 ((s55 (⟨3,decF_55 (getL [(enc_55 (⟨(0:Int),(0:Int),(2:Int)⟩:Gate)),(enc_55 (⟨(10:Int),(5:Int),(6:Int)⟩:Gate)),(enc_55 (⟨(20:Int),(0:Int),(2:Int)⟩:Gate))])⟩:(Sl Gate))).1) ((s55 (⟨3,decF_55 (getL [(enc_55 (⟨(0:Int),(0:Int),(2:Int)⟩:Gate)),(enc_55 (⟨(10:Int),(5:Int),(6:Int)⟩:Gate)),(enc_55 (⟨(20:Int),(0:Int),(2:Int)⟩:Gate))])⟩:(Sl Gate))).2.1) ((s55 (⟨3,decF_55 (getL [(enc_55 (⟨(0:Int),(0:Int),(2:Int)⟩:Gate)),(enc_55 (⟨(10:Int),(5:Int),(6:Int)⟩:Gate)),(enc_55 (⟨(20:Int),(0:Int),(2:Int)⟩:Gate))])⟩:(Sl Gate))).2.2) (fun i=>enc_3 (sv3.get i)) rfl (fun i=>enc_3 (((s55 (⟨3,decF_55 (getL [(enc_55 (⟨(0:Int),(0:Int),(2:Int)⟩:Gate)),(enc_55 (⟨(10:Int),(5:Int),(6:Int)⟩:Gate)),(enc_55 (⟨(20:Int),(0:Int),(2:Int)⟩:Gate))])⟩:(Sl Gate))).1).get i)) rfl hs hk)⟩)
def s18_at2 (cv0:(Sl Line)) (ev0:Int) (fv1:Int) (p_0v1:Int) (p_1v1:Int) (q_0v1:Int) (q_1v1:Int) (sv2:(Sl Int)) (gv2:Int):Bool :=
  (s18_at3 cv0 ev0 fv1 p_0v1 p_1v1 q_0v1 q_1v1 gv2 sv2 ((s19 s62 (⟨2,decF_55 (getL [(enc_55 (⟨(0:Int),(100:Int),(110:Int)⟩:Gate)),(enc_55 (⟨(200:Int),(40:Int),(50:Int)⟩:Gate))])⟩:(Sl Gate)) (0:Int) (300:Int)).1) ((s19 s62 (⟨2,decF_55 (getL [(enc_55 (⟨(0:Int),(100:Int),(110:Int)⟩:Gate)),(enc_55 (⟨(200:Int),(40:Int),(50:Int)⟩:Gate))])⟩:(Sl Gate)) (0:Int) (300:Int)).2.2.2) (((s19 s62 (⟨2,decF_55 (getL [(enc_55 (⟨(0:Int),(100:Int),(110:Int)⟩:Gate)),(enc_55 (⟨(200:Int),(40:Int),(50:Int)⟩:Gate))])⟩:(Sl Gate)) (0:Int) (300:Int)).2.1).Num) (((s19 s62 (⟨2,decF_55 (getL [(enc_55 (⟨(0:Int),(100:Int),(110:Int)⟩:Gate)),(enc_55 (⟨(200:Int),(40:Int),(50:Int)⟩:Gate))])⟩:(Sl Gate)) (0:Int) (300:Int)).2.1).Den) (((s19 s62 (⟨2,decF_55 (getL [(enc_55 (⟨(0:Int),(100:Int),(110:Int)⟩:Gate)),(enc_55 (⟨(200:Int),(40:Int),(50:Int)⟩:Gate))])⟩:(Sl Gate)) (0:Int) (300:Int)).2.2.1).Num) (((s19 s62 (⟨2,decF_55 (getL [(enc_55 (⟨(0:Int),(100:Int),(110:Int)⟩:Gate)),(enc_55 (⟨(200:Int),(40:Int),(50:Int)⟩:Gate))])⟩:(Sl Gate)) (0:Int) (300:Int)).2.2.1).Den))
def p18_at2 (cv0:(Sl Line)) (ev0:Int) (fv1:Int) (p_0v1:Int) (p_1v1:Int) (q_0v1:Int) (q_1v1:Int) (sv2:(Sl Int)) (gv2:Int):Bool :=
  (decide ((p19 s62 (⟨2,decF_55 (getL [(enc_55 (⟨(0:Int),(100:Int),(110:Int)⟩:Gate)),(enc_55 (⟨(200:Int),(40:Int),(50:Int)⟩:Gate))])⟩:(Sl Gate)) (0:Int) (300:Int)=true)) &&
  (p18_at3 cv0 ev0 fv1 p_0v1 p_1v1 q_0v1 q_1v1 gv2 sv2 ((s19 s62 (⟨2,decF_55 (getL [(enc_55 (⟨(0:Int),(100:Int),(110:Int)⟩:Gate)),(enc_55 (⟨(200:Int),(40:Int),(50:Int)⟩:Gate))])⟩:(Sl Gate)) (0:Int) (300:Int)).1) ((s19 s62 (⟨2,decF_55 (getL [(enc_55 (⟨(0:Int),(100:Int),(110:Int)⟩:Gate)),(enc_55 (⟨(200:Int),(40:Int),(50:Int)⟩:Gate))])⟩:(Sl Gate)) (0:Int) (300:Int)).2.2.2) (((s19 s62 (⟨2,decF_55 (getL [(enc_55 (⟨(0:Int),(100:Int),(110:Int)⟩:Gate)),(enc_55 (⟨(200:Int),(40:Int),(50:Int)⟩:Gate))])⟩:(Sl Gate)) (0:Int) (300:Int)).2.1).Num) (((s19 s62 (⟨2,decF_55 (getL [(enc_55 (⟨(0:Int),(100:Int),(110:Int)⟩:Gate)),(enc_55 (⟨(200:Int),(40:Int),(50:Int)⟩:Gate))])⟩:(Sl Gate)) (0:Int) (300:Int)).2.1).Den) (((s19 s62 (⟨2,decF_55 (getL [(enc_55 (⟨(0:Int),(100:Int),(110:Int)⟩:Gate)),(enc_55 (⟨(200:Int),(40:Int),(50:Int)⟩:Gate))])⟩:(Sl Gate)) (0:Int) (300:Int)).2.2.1).Num) (((s19 s62 (⟨2,decF_55 (getL [(enc_55 (⟨(0:Int),(100:Int),(110:Int)⟩:Gate)),(enc_55 (⟨(200:Int),(40:Int),(50:Int)⟩:Gate))])⟩:(Sl Gate)) (0:Int) (300:Int)).2.2.1).Den)))
theorem q18_at2 (K:List PA→Prop) (cv0:(Sl Line)) (ev0:Int) (fv1:Int) (p_0v1:Int) (p_1v1:Int) (q_0v1:Int) (q_1v1:Int) (sv2:(Sl Int)) (gv2:Int) (sv2_g:Nat→List PV) (sv2_h:sv2_g=fun i=>enc_3 (sv2.get i)) (hs:p18_at2 cv0 ev0 fv1 p_0v1 p_1v1 q_0v1 q_1v1 sv2 gv2=true) (hk:K (e18 (s18_at2 cv0 ev0 fv1 p_0v1 p_1v1 q_0v1 q_1v1 sv2 gv2))):f18_at2 K cv0 ev0 fv1 p_0v1 p_1v1 q_0v1 q_1v1 sv2.len sv2_g gv2:=by
  subst sv2_h
  refine ofEq (f18_eq2 K cv0 ev0 fv1 p_0v1 p_1v1 q_0v1 q_1v1 sv2 gv2) ?_
  unfold p18_at2 at hs
  unfold s18_at2 at hk
  exact (andK hs fun hc hs=>⟨⟨isE,(isE_list []),hc⟩,(q18_at3 K cv0 ev0 fv1 p_0v1 p_1v1 q_0v1 q_1v1 gv2 sv2 ((s19 s62 (⟨2,decF_55 (getL [(enc_55 (⟨(0:Int),(100:Int),(110:Int)⟩:Gate)),(enc_55 (⟨(200:Int),(40:Int),(50:Int)⟩:Gate))])⟩:(Sl Gate)) (0:Int) (300:Int)).1) ((s19 s62 (⟨2,decF_55 (getL [(enc_55 (⟨(0:Int),(100:Int),(110:Int)⟩:Gate)),(enc_55 (⟨(200:Int),(40:Int),(50:Int)⟩:Gate))])⟩:(Sl Gate)) (0:Int) (300:Int)).2.2.2) (((s19 s62 (⟨2,decF_55 (getL [(enc_55 (⟨(0:Int),(100:Int),(110:Int)⟩:Gate)),(enc_55 (⟨(200:Int),(40:Int),(50:Int)⟩:Gate))])⟩:(Sl Gate)) (0:Int) (300:Int)).2.1).Num) (((s19 s62 (⟨2,decF_55 (getL [(enc_55 (⟨(0:Int),(100:Int),(110:Int)⟩:Gate)),(enc_55 (⟨(200:Int),(40:Int),(50:Int)⟩:Gate))])⟩:(Sl Gate)) (0:Int) (300:Int)).2.1).Den) (((s19 s62 (⟨2,decF_55 (getL [(enc_55 (⟨(0:Int),(100:Int),(110:Int)⟩:Gate)),(enc_55 (⟨(200:Int),(40:Int),(50:Int)⟩:Gate))])⟩:(Sl Gate)) (0:Int) (300:Int)).2.2.1).Num) (((s19 s62 (⟨2,decF_55 (getL [(enc_55 (⟨(0:Int),(100:Int),(110:Int)⟩:Gate)),(enc_55 (⟨(200:Int),(40:Int),(50:Int)⟩:Gate))])⟩:(Sl Gate)) (0:Int) (300:Int)).2.2.1).Den) (fun i=>enc_3 (sv2.get i)) rfl hs hk)⟩)
def s18_at1 (cv0:(Sl Line)) (ev0:Int) (fv1:Int) (p_0v1:Int) (p_1v1:Int) (q_0v1:Int) (q_1v1:Int):Bool :=
  (s18_at2 cv0 ev0 fv1 p_0v1 p_1v1 q_0v1 q_1v1 ((s38 s63).1) ((s38 s63).2))
def p18_at1 (cv0:(Sl Line)) (ev0:Int) (fv1:Int) (p_0v1:Int) (p_1v1:Int) (q_0v1:Int) (q_1v1:Int):Bool :=
  (decide ((p38 s63=true)) &&
  (p18_at2 cv0 ev0 fv1 p_0v1 p_1v1 q_0v1 q_1v1 ((s38 s63).1) ((s38 s63).2)))
theorem q18_at1 (K:List PA→Prop) (cv0:(Sl Line)) (ev0:Int) (fv1:Int) (p_0v1:Int) (p_1v1:Int) (q_0v1:Int) (q_1v1:Int) (hs:p18_at1 cv0 ev0 fv1 p_0v1 p_1v1 q_0v1 q_1v1=true) (hk:K (e18 (s18_at1 cv0 ev0 fv1 p_0v1 p_1v1 q_0v1 q_1v1))):f18_at1 K cv0 ev0 fv1 p_0v1 p_1v1 q_0v1 q_1v1:=by
  refine ofEq (f18_eq1 K cv0 ev0 fv1 p_0v1 p_1v1 q_0v1 q_1v1) ?_
  unfold p18_at1 at hs
  unfold s18_at1 at hk
  exact (andK hs fun hc hs=>⟨⟨isE,hc⟩,(q18_at2 K cv0 ev0 fv1 p_0v1 p_1v1 q_0v1 q_1v1 ((s38 s63).1) ((s38 s63).2) (fun i=>enc_3 (((s38 s63).1).get i)) rfl hs hk)⟩)
def s18_at0 (cv0:(Sl Line)) (ev0:Int):Bool :=
  (s18_at1 cv0 ev0 ((s30 s62 (300:Int)).2.2) (((s30 s62 (300:Int)).1).Num) (((s30 s62 (300:Int)).1).Den) (((s30 s62 (300:Int)).2.1).Num) (((s30 s62 (300:Int)).2.1).Den))
def p18_at0 (cv0:(Sl Line)) (ev0:Int):Bool :=
  (decide ((p30 s62 (300:Int)=true)) &&
  (p18_at1 cv0 ev0 ((s30 s62 (300:Int)).2.2) (((s30 s62 (300:Int)).1).Num) (((s30 s62 (300:Int)).1).Den) (((s30 s62 (300:Int)).2.1).Num) (((s30 s62 (300:Int)).2.1).Den)))
theorem q18_at0 (K:List PA→Prop) (cv0:(Sl Line)) (ev0:Int) (cv0_g:Nat→List PV) (cv0_h:cv0_g=fun i=>enc_37 (cv0.get i)) (hs:p18_at0 cv0 ev0=true) (hk:K (e18 (s18_at0 cv0 ev0))):f18_at0 K cv0.len cv0_g ev0:=by
  subst cv0_h
  refine ofEq (f18_eq0 K cv0 ev0) ?_
  unfold p18_at0 at hs
  unfold s18_at0 at hk
  exact (andK hs fun hc hs=>⟨⟨isE,hc⟩,(q18_at1 K cv0 ev0 ((s30 s62 (300:Int)).2.2) (((s30 s62 (300:Int)).1).Num) (((s30 s62 (300:Int)).1).Den) (((s30 s62 (300:Int)).2.1).Num) (((s30 s62 (300:Int)).2.1).Den) hs hk)⟩)
def s18:Bool :=
  (s18_at0 ((s31 s62).1) ((s31 s62).2))
def p18:Bool :=
  (decide ((p31 s62=true)) &&
  (p18_at0 ((s31 s62).1) ((s31 s62).2)))
theorem q18 (K:List PA→Prop) (hs:p18=true) (hk:K (e18 (s18))):vcFun Try.prog G18 ann18 18 [] K:=by
  refine ofEq (f18_top K) ?_
  unfold p18 at hs
  unfold s18 at hk
  exact (andK hs fun hc hs=>⟨⟨isE,hc⟩,(q18_at0 K ((s31 s62).1) ((s31 s62).2) (fun i=>enc_37 (((s31 s62).1).get i)) rfl hs hk)⟩)
theorem p18_ok:p18=true:=by kernel_rfl
theorem s18_ok:s18=true:=by kernel_rfl
def ctr18 : List PA → COut
  | []=>.tot [.one (.bool true)]
  | _=>.no
theorem call18:Callable Try.prog 18:=⟨_,rfl,rfl,by kernel_rfl⟩
theorem ok18:Ok Try.prog 18 ctr18:=ok_tab okT18 call18 fun args K h=>by
  unfold ctr18 at h
  split at h
  · refine ⟨fun _ _ => [], fun _ => false, ann18, q18 K p18_ok ?_⟩
    show K [.one (.bool s18)]
    rw [s18_ok];exact h
  · exact h.elim
abbrev T70:Tabs:=Tabs.nil
theorem okT70:TabsOk Try.prog T70:=TabsOk.nil
abbrev G70:Ctrs:=csm T70 (fun _ _=>[]) (fun _=>false)
def ann70:Ann:=⟨15,[(0,⟨[0,1,2],[],[],[],[],[],[]⟩),(1,⟨[6],[],[],[],[],[],[]⟩)],
  [],
  [],
  [],[]⟩
theorem f70_top (n : Int) (low : Int) (high : Int) (K : List PA → Prop) :
  vcFun Try.prog G70 ann70 70 [.one (.int .i64 n),.one (.int .i64 low),.one (.int .i64 high)] K =
  (condP (decide (n ≥ low))
   (K [.one (.bool (decide (n≤high)))])
   (K [.one (.bool false)])):=by kernel_rfl
abbrev e70 (r:Bool):List PA:=[.one (.bool r)]
def s70 (n:Int) (low:Int) (high:Int):Bool :=
  (cond (decide (n ≥ low))
   (decide (n≤high))
   false)
theorem q70 (n:Int) (low:Int) (high:Int) (K:List PA→Prop) (hk:K (e70 (s70 n low high))):vcFun Try.prog G70 ann70 70 [.one (.int .i64 n),.one (.int .i64 low),.one (.int .i64 high)] K:=by
  refine ofEq (f70_top n low high K) ?_
  unfold s70 at hk
  exact (condP_gt (K := fun r => K (e70 r))
   (fun hk=>hk)
   (fun hk=>hk) hk)
def ctr70 : List PA → COut
  | [.one (.int .i64 a0),.one (.int .i64 a1),.one (.int .i64 a2)]=>.tot [.one (.bool (s70 a0 a1 a2))]
  | _=>.no
theorem call70:Callable Try.prog 70:=⟨_,rfl,rfl,by kernel_rfl⟩
theorem ok70:Ok Try.prog 70 ctr70:=ok_tab okT70 call70 fun args K h=>by
  unfold ctr70 at h
  split at h
  · rename_i a0 a1 a2
    have hk:=h
    exact ⟨(fun _ _=>[]),(fun _=>false),ann70,q70 a0 a1 a2 K hk⟩
  · exact h.elim
abbrev T49:Tabs:=(Tabs.nil.addF 70 ctr70)
theorem okT49:TabsOk Try.prog T49:=(TabsOk.nil.addF ok70)
abbrev G49:Ctrs:=csm T49 (fun _ _=>[]) (fun _=>false)
def ann49:Ann:=⟨18,[(0,⟨[1],[1],[],[],[],[],[]⟩),(1,⟨[2],[],[],[],[],[],[]⟩)],
  [],
  [],
  [],[]⟩
theorem f49_top (g : Gate) (K : List PA → Prop) :
  vcFun Try.prog G49 ann49 49 [.agg [.int .i64 g.Z,.int .i64 g.Low,.int .i64 g.High]] K =
  (condP (s70 g.Z (0:Int) (100000:Int))
   (condP (s70 g.Low (-1000000:Int) g.High)
    (K [.one (.bool (decide (g.High≤(1000000:Int))))])
    (K [.one (.bool false)]))
   (K [.one (.bool false)])):=by kernel_rfl
abbrev e49 (r:Bool):List PA:=[.one (.bool r)]
def s49 (g:Gate):Bool :=
  (cond (s70 g.Z (0:Int) (100000:Int))
   (cond (s70 g.Low (-1000000:Int) g.High)
    (decide (g.High≤(1000000:Int)))
    false)
   false)
theorem q49 (g:Gate) (K:List PA→Prop) (hk:K (e49 (s49 g))):vcFun Try.prog G49 ann49 49 [.agg [.int .i64 g.Z,.int .i64 g.Low,.int .i64 g.High]] K:=by
  refine ofEq (f49_top g K) ?_
  unfold s49 at hk
  exact (condP_gt (K := fun r => K (e49 r))
   (fun hk => (condP_gt (K := fun r => K (e49 r))
    (fun hk=>hk)
    (fun hk=>hk) hk))
   (fun hk=>hk) hk)
def ctr49 : List PA → COut
  | [.agg [.int .i64 a0_Z,.int .i64 a0_Low,.int .i64 a0_High]]=>.tot [.one (.bool (s49 (⟨a0_Z,a0_Low,a0_High⟩:Gate)))]
  | _=>.no
theorem call49:Callable Try.prog 49:=⟨_,rfl,rfl,by kernel_rfl⟩
theorem ok49:Ok Try.prog 49 ctr49:=ok_tab okT49 call49 fun args K h=>by
  unfold ctr49 at h
  split at h
  · rename_i a0_Z a0_Low a0_High
    have hk:=h
    exact ⟨(fun _ _=>[]),(fun _=>false),ann49,q49 (⟨a0_Z,a0_Low,a0_High⟩:Gate) K hk⟩
  · exact h.elim
abbrev T20:Tabs:=((Tabs.nil.addF 49 ctr49).addF 70 ctr70)
theorem okT20:TabsOk Try.prog T20:=((TabsOk.nil.addF ok49).addF ok70)
abbrev G20:Ctrs:=csm T20 (fun _ _=>[]) (fun _=>false)
def ann20:Ann:=⟨19,[(0,⟨[0],[],[],[],[],[],[]⟩),(1,⟨[0,3],[],[],[],[],[],[]⟩),(2,⟨[0,3,7],[],[],[],[],[],[]⟩),(3,⟨[0,3],[],[],[],[],[],[]⟩),(4,⟨[0,3,15],[],[],[],[],[],[]⟩),(5,⟨[2],[],[],[],[],[],[]⟩),(6,⟨[2],[],[],[],[],[],[]⟩)],
  [(2,⟨[0,3],[],[],[],[],[],[]⟩)],
  [(5,⟨[0,3,15],[],[],[],[],[],[]⟩)],
  [],[]⟩
def f20_g0 (l_a0:(Sl Gate)) (iv0:Int):St:=⟨[(0,.one (.c (.p (.sl l_a0.len 3 (fun i=>enc_55 (l_a0.get i)))))),(3,.one (.c (.p (.int .i64 iv0))))],[],[]⟩
def f20_at0 (K:List PA→Prop) (l_a0:(Sl Gate)) (iv0:Int):Prop:=vc Try.prog G20 ann20 (cdF Try.f20 [1,0,1,0]) (blockK 0 (sqK Try.prog G20 ann20 (cdF Try.f20 [1,1]) (bodyK Try.prog Try.f20 K))) (f20_g0 l_a0 iv0)
def f20_g1 (l_a0:(Sl Gate)) (iv1:Int) (t15v1:Bool):St:=⟨[(0,.one (.c (.p (.sl l_a0.len 3 (fun i=>enc_55 (l_a0.get i)))))),(3,.one (.c (.p (.int .i64 iv1)))),(15,.one (.c (.p (.bool t15v1))))],[],[]⟩
def f20_at1 (K:List PA→Prop) (X0:St→Prop) (l_a0:(Sl Gate)) (iv1:Int) (t15v1:Bool):Prop:=vc Try.prog G20 ann20 (cdF Try.f20 [1,0,1,0,0,1,0,0,1]) (blockK 1 (sqK Try.prog G20 ann20 (cdF Try.f20 [1,0,1,0,0,1,1]) (loopK Try.prog ann20 2 X0 (blockK 0 (sqK Try.prog G20 ann20 (cdF Try.f20 [1,1]) (bodyK Try.prog Try.f20 K)))))) (f20_g1 l_a0 iv1 t15v1)
theorem f20_top (l_a0 : (Sl Gate)) (K : List PA → Prop) :
  vcFun Try.prog G20 ann20 20 [.one (.sl l_a0.len 3 (fun i=>enc_55 (l_a0.get i)))] K =
  (f20_at0 K l_a0 (0:Int)):=by kernel_rfl
def f20_step0 (K:List PA→Prop) (X0:St→Prop) (l_a0:(Sl Gate)) (iv0:Int):Prop :=
  (condP (decide (iv0 < (l_a0.len : Int)))
   (((0≤iv0∧iv0 < (l_a0.len:Int))) ∧
   (f20_at1 K X0 l_a0 iv0 (!(s49 (l_a0.get iv0.toNat)))))
   (K [.one (.bool (s70 (l_a0.len:Int) (1:Int) (24:Int)))]))
theorem f20_stepeq0 (K : List PA → Prop) (X0 : St → Prop) (l_a0 : (Sl Gate)) (iv0 : Int) :
  vc Try.prog G20 ann20 (cd (cdF Try.f20 [1,0,1,0]) [0]) (loopK Try.prog ann20 2 X0 (blockK 0 (sqK Try.prog G20 ann20 (cdF Try.f20 [1,1]) (bodyK Try.prog Try.f20 K)))) (f20_g0 l_a0 iv0) =
  f20_step0 K X0 l_a0 iv0:=by kernel_rfl
theorem f20_loop0 (K : List PA → Prop) (l_a0 : (Sl Gate)) (iv0 : Int)
  (h:∀ X0:St→Prop,(∀ (iv0:Int),f20_step0 K X0 l_a0 iv0→X0 (f20_g0 l_a0 iv0))→X0 (f20_g0 l_a0 iv0)) :
  f20_at0 K l_a0 iv0:=by
  have e:f20_at0 K l_a0 iv0=(∀ X:St→Prop,(∀ s,vc Try.prog G20 ann20 (cd (cdF Try.f20 [1,0,1,0]) [0]) (loopK Try.prog ann20 2 X (blockK 0 (sqK Try.prog G20 ann20 (cdF Try.f20 [1,1]) (bodyK Try.prog Try.f20 K)))) s→X s)→X (f20_g0 l_a0 iv0)):=by kernel_rfl
  refine ofEq e ?_
  intro X hX
  refine h X ?_
  intro iv0 hs
  refine hX _ ?_
  have e2:=f20_stepeq0 K X l_a0 iv0
  rw [e2]
  exact hs
theorem f20_eq1 (K : List PA → Prop) (X0 : St → Prop) (l_a0 : (Sl Gate)) (iv1 : Int) (t15v1 : Bool) :
  f20_at1 K X0 l_a0 iv1 t15v1 =
  (condP t15v1
   (K [.one (.bool false)])
   (X0 (f20_g0 l_a0 (w64 (iv1+(1:Int)))))):=by kernel_rfl
abbrev e20 (r:Bool):List PA:=[.one (.bool r)]
attribute [irreducible] f20_at0 f20_at1
def s20_at1 (S0:Int→Bool) (l_a0:(Sl Gate)) (iv1:Int) (t15v1:Bool):Bool :=
  (cond t15v1
   false
   (S0 (w64 (iv1+(1:Int)))))
def p20_at1 (P0:Int→Bool) (l_a0:(Sl Gate)) (iv1:Int) (t15v1:Bool):Bool :=
  (cond t15v1
   true
   (P0 (w64 (iv1+(1:Int)))))
theorem q20_at1 (K : List PA → Prop) (l_a0 : (Sl Gate))
  (X0:St→Prop) (P0:Int→Bool) (S0:Int→Bool)
  (hX0:∀ (iv0:Int),P0 iv0=true→K (e20 (S0 iv0))→X0 (f20_g0 l_a0 iv0)) (iv1:Int) (t15v1:Bool) (hs:p20_at1 P0 l_a0 iv1 t15v1=true) (hk:K (e20 (s20_at1 S0 l_a0 iv1 t15v1))):f20_at1 K X0 l_a0 iv1 t15v1:=by
  refine ofEq (f20_eq1 K X0 l_a0 iv1 t15v1) ?_
  unfold p20_at1 at hs
  unfold s20_at1 at hk
  exact (condB_go (K := fun r => K (e20 r))
   (fun hs hk=>hk)
   (fun hs hk=>(hX0 (w64 (iv1+(1:Int))) hs hk)) hs hk)
def s20_st0 (l_a0:(Sl Gate)) (S0:Int→Bool) (iv0:Int):Bool :=
  (cond (decide (iv0 < (l_a0.len : Int)))
   (s20_at1 S0 l_a0 iv0 (!(s49 (l_a0.get iv0.toNat))))
   (s70 (l_a0.len:Int) (1:Int) (24:Int)))
def p20_st0 (l_a0:(Sl Gate)) (P0:Int→Bool) (iv0:Int):Bool :=
  (cond (decide (iv0 < (l_a0.len : Int)))
   (decide ((0≤iv0∧iv0 < (l_a0.len:Int))) &&
   (p20_at1 P0 l_a0 iv0 (!(s49 (l_a0.get iv0.toNat)))))
   true)
def s20_lp0 (l_a0 : (Sl Gate)) : Nat → Int → Bool
  | 0=>fun _=>default
  | k+1=>s20_st0 l_a0 (s20_lp0 l_a0 k)
def p20_lp0 (l_a0 : (Sl Gate)) : Nat → Int → Bool
  | 0=>fun _=>false
  | k+1=>p20_st0 l_a0 (p20_lp0 l_a0 k)
def s20_at0 (l_a0:(Sl Gate)) (iv0:Int):Bool:=s20_lp0 l_a0 Fuel iv0
def p20_at0 (l_a0:(Sl Gate)) (iv0:Int):Bool:=p20_lp0 l_a0 Fuel iv0
theorem q20_at0 (K:List PA→Prop) (l_a0:(Sl Gate)) (iv0:Int) (hs:p20_at0 l_a0 iv0=true) (hk:K (e20 (s20_at0 l_a0 iv0))):f20_at0 K l_a0 iv0:=by
  refine f20_loop0 K l_a0 iv0 ?_
  intro X0 hstep
  have key:∀ (k:Nat) (iv0:Int),p20_lp0 l_a0 k iv0=true→K (e20 (s20_lp0 l_a0 k iv0))→X0 (f20_g0 l_a0 iv0):=by
    intro k
    induction k with
    | zero=>intro iv0 hs;exact absurd hs Bool.false_ne_true
    | succ k ih =>
      intro iv0 hs hk
      refine hstep iv0 ?_
      have hs:p20_st0 l_a0 (p20_lp0 l_a0 k) iv0=true:=hs
      have hk:K (e20 (s20_st0 l_a0 (s20_lp0 l_a0 k) iv0)):=hk
      unfold p20_st0 at hs
      unfold s20_st0 at hk
      generalize s20_lp0 l_a0 k=S0 at hk ih
      generalize p20_lp0 l_a0 k=P0 at hs ih
      have hX0:=ih
      exact (condB_go (K := fun r => K (e20 r))
       (fun hs hk=>(andK hs fun hc hs=>⟨hc,(q20_at1 K l_a0 X0 P0 S0 hX0 iv0 (!(s49 (l_a0.get iv0.toNat))) hs hk)⟩))
       (fun hs hk=>hk) hs hk)
  exact key _ iv0 hs hk
def s20 (l_a0:(Sl Gate)):Bool :=
  (s20_at0 l_a0 (0:Int))
def p20 (l_a0:(Sl Gate)):Bool :=
  (p20_at0 l_a0 (0:Int))
theorem q20 (l_a0:(Sl Gate)) (K:List PA→Prop) (hs:p20 l_a0=true) (hk:K (e20 (s20 l_a0))):vcFun Try.prog G20 ann20 20 [.one (.sl l_a0.len 3 (fun i=>enc_55 (l_a0.get i)))] K:=by
  refine ofEq (f20_top l_a0 K) ?_
  unfold p20 at hs
  unfold s20 at hk
  exact (q20_at0 K l_a0 (0:Int) hs hk)
def ctr20 : List PA → COut
  | [.one (.sl a0_n a0_s a0_g)]=>.det (IsE enc_55 3 a0_s a0_g∧p20 (⟨a0_n,decF_55 a0_g⟩:(Sl Gate))=true) [.one (.bool (s20 (⟨a0_n,decF_55 a0_g⟩:(Sl Gate))))]
  | _=>.no
theorem call20:Callable Try.prog 20:=⟨_,rfl,rfl,by kernel_rfl⟩
theorem ok20:Ok Try.prog 20 ctr20:=ok_tab okT20 call20 fun args K h=>by
  unfold ctr20 at h
  split at h
  · rename_i a0_n a0_s a0_g
    obtain ⟨⟨⟨rfl,a0_f,rfl⟩,hs⟩,hk⟩:=h
    try rw [decF_enc_55 a0_f] at hs
    try rw [decF_enc_55 a0_f] at hk
    exact ⟨(fun _ _=>[]),(fun _=>false),ann20,q20 (⟨a0_n,a0_f⟩:(Sl Gate)) K hs hk⟩
  · exact h.elim
end Go.Proofs
namespace Go.Proofs
open Go Go.Pm
set_option maxRecDepth 100000
set_option linter.unusedVariables false
attribute [local irreducible] Go.Pm.vcFun Go.Pm.vc Go.Pm.vcIter
abbrev T104:Tabs:=Tabs.nil
theorem okT104:TabsOk Try.prog T104:=TabsOk.nil
abbrev G104:Ctrs:=csm T104 (fun _ _=>[]) (fun _=>false)
def ann104:Ann:=⟨30,[(0,⟨[1,2],[2],[],[],[],[],[]⟩),(1,⟨[4,5],[],[],[],[],[],[]⟩)],
  [],
  [],
  [],[]⟩
theorem f104_top (l_a0 : Line) (z : Int) (K : List PA → Prop) :
  vcFun Try.prog G104 ann104 104 [.agg [.int .i64 l_a0.Slope.Num,.int .i64 l_a0.Slope.Den,.int .i64 l_a0.Start.Num,.int .i64 l_a0.Start.Den],.one (.int .i64 z)] K =
  (K [.one (.int .i64 (w64 ((w64 (l_a0.Start.Num * l_a0.Slope.Den))+(w64 ((w64 (l_a0.Slope.Num * z)) * l_a0.Start.Den))))),.one (.int .i64 (w64 (l_a0.Start.Den * l_a0.Slope.Den)))]):=by kernel_rfl
abbrev e104 (r:(Int×Int)):List PA:=[.one (.int .i64 r.1),.one (.int .i64 r.2)]
def s104 (l_a0:Line) (z:Int):(Int×Int) :=
  ((w64 ((w64 (l_a0.Start.Num * l_a0.Slope.Den))+(w64 ((w64 (l_a0.Slope.Num * z)) * l_a0.Start.Den)))),(w64 (l_a0.Start.Den * l_a0.Slope.Den)))
theorem q104 (l_a0:Line) (z:Int) (K:List PA→Prop) (hk:K (e104 (s104 l_a0 z))):vcFun Try.prog G104 ann104 104 [.agg [.int .i64 l_a0.Slope.Num,.int .i64 l_a0.Slope.Den,.int .i64 l_a0.Start.Num,.int .i64 l_a0.Start.Den],.one (.int .i64 z)] K:=by
  refine ofEq (f104_top l_a0 z K) ?_
  unfold s104 at hk
  exact hk
def ctr104 : List PA → COut
  | [.agg [.int .i64 a0_Slope_Num,.int .i64 a0_Slope_Den,.int .i64 a0_Start_Num,.int .i64 a0_Start_Den],.one (.int .i64 a1)]=>.tot [.one (.int .i64 ((s104 (⟨(⟨a0_Slope_Num,a0_Slope_Den⟩:Frac),(⟨a0_Start_Num,a0_Start_Den⟩:Frac)⟩:Line) a1).1)),.one (.int .i64 ((s104 (⟨(⟨a0_Slope_Num,a0_Slope_Den⟩:Frac),(⟨a0_Start_Num,a0_Start_Den⟩:Frac)⟩:Line) a1).2))]
  | _=>.no
theorem call104:Callable Try.prog 104:=⟨_,rfl,rfl,by kernel_rfl⟩
theorem ok104:Ok Try.prog 104 ctr104:=ok_tab okT104 call104 fun args K h=>by
  unfold ctr104 at h
  split at h
  · rename_i a0_Slope_Num a0_Slope_Den a0_Start_Num a0_Start_Den a1
    have hk:=h
    exact ⟨(fun _ _=>[]),(fun _=>false),ann104,q104 (⟨(⟨a0_Slope_Num,a0_Slope_Den⟩:Frac),(⟨a0_Start_Num,a0_Start_Den⟩:Frac)⟩:Line) a1 K hk⟩
  · exact h.elim
abbrev T72:Tabs:=(Tabs.nil.addF 104 ctr104)
theorem okT72:TabsOk Try.prog T72:=(TabsOk.nil.addF ok104)
abbrev G72:Ctrs:=csm T72 (fun _ _=>[]) (fun _=>false)
def ann72:Ann:=⟨28,[(0,⟨[2,3],[2,3],[],[],[],[],[]⟩),(1,⟨[3,5,6],[3],[],[],[],[],[]⟩),(2,⟨[4],[],[],[],[],[],[]⟩)],
  [],
  [],
  [],[]⟩
theorem f72_top (l_a0 : Line) (g : Gate) (K : List PA → Prop) :
  vcFun Try.prog G72 ann72 72 [.agg [.int .i64 l_a0.Slope.Num,.int .i64 l_a0.Slope.Den,.int .i64 l_a0.Start.Num,.int .i64 l_a0.Start.Den],.agg [.int .i64 g.Z,.int .i64 g.Low,.int .i64 g.High]] K =
  (condP (decide ((w64 (g.Low * ((s104 l_a0 g.Z).2))) ≤ ((s104 l_a0 g.Z).1)))
   (K [.one (.bool (decide (((s104 l_a0 g.Z).1)≤(w64 (g.High * ((s104 l_a0 g.Z).2))))))])
   (K [.one (.bool false)])):=by kernel_rfl
abbrev e72 (r:Bool):List PA:=[.one (.bool r)]
def s72 (l_a0:Line) (g:Gate):Bool :=
  (cond (decide ((w64 (g.Low * ((s104 l_a0 g.Z).2))) ≤ ((s104 l_a0 g.Z).1)))
   (decide (((s104 l_a0 g.Z).1)≤(w64 (g.High * ((s104 l_a0 g.Z).2)))))
   false)
theorem q72 (l_a0:Line) (g:Gate) (K:List PA→Prop) (hk:K (e72 (s72 l_a0 g))):vcFun Try.prog G72 ann72 72 [.agg [.int .i64 l_a0.Slope.Num,.int .i64 l_a0.Slope.Den,.int .i64 l_a0.Start.Num,.int .i64 l_a0.Start.Den],.agg [.int .i64 g.Z,.int .i64 g.Low,.int .i64 g.High]] K:=by
  refine ofEq (f72_top l_a0 g K) ?_
  unfold s72 at hk
  exact (condP_gt (K := fun r => K (e72 r))
   (fun hk=>hk)
   (fun hk=>hk) hk)
def ctr72 : List PA → COut
  | [.agg [.int .i64 a0_Slope_Num,.int .i64 a0_Slope_Den,.int .i64 a0_Start_Num,.int .i64 a0_Start_Den],.agg [.int .i64 a1_Z,.int .i64 a1_Low,.int .i64 a1_High]]=>.tot [.one (.bool (s72 (⟨(⟨a0_Slope_Num,a0_Slope_Den⟩:Frac),(⟨a0_Start_Num,a0_Start_Den⟩:Frac)⟩:Line) (⟨a1_Z,a1_Low,a1_High⟩:Gate)))]
  | _=>.no
theorem call72:Callable Try.prog 72:=⟨_,rfl,rfl,by kernel_rfl⟩
theorem ok72:Ok Try.prog 72 ctr72:=ok_tab okT72 call72 fun args K h=>by
  unfold ctr72 at h
  split at h
  · rename_i a0_Slope_Num a0_Slope_Den a0_Start_Num a0_Start_Den a1_Z a1_Low a1_High
    have hk:=h
    exact ⟨(fun _ _=>[]),(fun _=>false),ann72,q72 (⟨(⟨a0_Slope_Num,a0_Slope_Den⟩:Frac),(⟨a0_Start_Num,a0_Start_Den⟩:Frac)⟩:Line) (⟨a1_Z,a1_Low,a1_High⟩:Gate) K hk⟩
  · exact h.elim
abbrev T27:Tabs:=(Tabs.nil.addF 72 ctr72)
theorem okT27:TabsOk Try.prog T27:=(TabsOk.nil.addF ok72)
abbrev G27:Ctrs:=csm T27 (fun _ _=>[]) (fun _=>false)
def ann27:Ann:=⟨24,[(0,⟨[1,2],[2],[],[],[],[],[]⟩),(1,⟨[1,2,5],[2],[],[],[],[],[]⟩),(2,⟨[1,2,5,6],[2],[],[],[],[],[]⟩),(3,⟨[1,2,5,6,10],[2,22],[],[],[],[],[]⟩),(4,⟨[1,2,5,6],[2,22],[],[],[],[],[]⟩),(5,⟨[1,2,5,6,18],[2,22],[],[],[],[],[]⟩),(6,⟨[1,2,5,6],[2,22],[],[],[],[],[]⟩),(7,⟨[4],[22],[],[],[],[],[]⟩)],
  [(3,⟨[1,2,5,6],[2,22],[(5,22,3,fun _=>enc_3 default)],[],[],[],[]⟩)],
  [(6,⟨[1,2,5,6,18],[2,22],[],[],[],[],[]⟩)],
  [],[]⟩
def f27_g0 (l_a0:Line) (gates:(Sl Gate)) (iv0:Int) (v22v0_n:Nat) (v22v0_g:Nat→List PV):St:=⟨[(1,.one (.c (.p (.sl gates.len 3 (fun i=>enc_55 (gates.get i)))))),(2,.one (.c (.ptr 2 0))),(5,.one (.c (.vec 22))),(6,.one (.c (.p (.int .i64 iv0))))],[(2,.box 37 [.p (.int .i64 l_a0.Slope.Num),.p (.int .i64 l_a0.Slope.Den),.p (.int .i64 l_a0.Start.Num),.p (.int .i64 l_a0.Start.Den)]),(22,.vec 3 1 8 v22v0_n v22v0_g)],[]⟩
def f27_at0 (K:List PA→Prop) (l_a0:Line) (gates:(Sl Gate)) (iv0:Int) (v22v0_n:Nat) (v22v0_g:Nat→List PV):Prop:=vc Try.prog G27 ann27 (cdF Try.f27 [1,1,0,1,0]) (blockK 0 (sqK Try.prog G27 ann27 (cdF Try.f27 [1,1,1]) (bodyK Try.prog Try.f27 K))) (f27_g0 l_a0 gates iv0 v22v0_n v22v0_g)
def f27_g1 (l_a0:Line) (gates:(Sl Gate)) (iv1:Int) (t18v1:Bool) (v22v1_n:Nat) (v22v1_g:Nat→List PV):St:=⟨[(1,.one (.c (.p (.sl gates.len 3 (fun i=>enc_55 (gates.get i)))))),(2,.one (.c (.ptr 2 0))),(5,.one (.c (.vec 22))),(6,.one (.c (.p (.int .i64 iv1)))),(18,.one (.c (.p (.bool t18v1))))],[(2,.box 37 [.p (.int .i64 l_a0.Slope.Num),.p (.int .i64 l_a0.Slope.Den),.p (.int .i64 l_a0.Start.Num),.p (.int .i64 l_a0.Start.Den)]),(22,.vec 3 1 8 v22v1_n v22v1_g)],[]⟩
def f27_at1 (K:List PA→Prop) (X0:St→Prop) (l_a0:Line) (gates:(Sl Gate)) (iv1:Int) (t18v1:Bool) (v22v1_n:Nat) (v22v1_g:Nat→List PV):Prop:=vc Try.prog G27 ann27 (cdF Try.f27 [1,1,0,1,0,0,1,0,0,1]) (blockK 1 (sqK Try.prog G27 ann27 (cdF Try.f27 [1,1,0,1,0,0,1,1]) (loopK Try.prog ann27 3 X0 (blockK 0 (sqK Try.prog G27 ann27 (cdF Try.f27 [1,1,1]) (bodyK Try.prog Try.f27 K)))))) (f27_g1 l_a0 gates iv1 t18v1 v22v1_n v22v1_g)
theorem f27_top (l_a0 : Line) (gates : (Sl Gate)) (K : List PA → Prop) :
  vcFun Try.prog G27 ann27 27 [.agg [.int .i64 l_a0.Slope.Num,.int .i64 l_a0.Slope.Den,.int .i64 l_a0.Start.Num,.int .i64 l_a0.Start.Den],.one (.sl gates.len 3 (fun i=>enc_55 (gates.get i)))] K =
  (f27_at0 K l_a0 gates (0:Int) 0 (fun i=>enc_3 ((fun _=>default) i))):=by kernel_rfl
def f27_step0 (K:List PA→Prop) (X0:St→Prop) (l_a0:Line) (gates:(Sl Gate)) (iv0:Int) (v22v0:(Sl Int)):Prop :=
  (condP (decide (iv0 < (gates.len : Int)))
   (((0≤iv0∧iv0 < (gates.len:Int))) ∧
   (f27_at1 K X0 l_a0 gates iv0 (s72 l_a0 (gates.get iv0.toNat)) v22v0.len (fun i=>enc_3 (v22v0.get i))))
   (K [.one (.sl v22v0.len 1 (fun i=>enc_3 (v22v0.get i)))]))
theorem f27_stepeq0 (K : List PA → Prop) (X0 : St → Prop) (l_a0 : Line) (gates : (Sl Gate)) (iv0 : Int) (v22v0 : (Sl Int)) :
  vc Try.prog G27 ann27 (cd (cdF Try.f27 [1,1,0,1,0]) [0]) (loopK Try.prog ann27 3 X0 (blockK 0 (sqK Try.prog G27 ann27 (cdF Try.f27 [1,1,1]) (bodyK Try.prog Try.f27 K)))) (f27_g0 l_a0 gates iv0 v22v0.len (fun i=>enc_3 (v22v0.get i))) =
  f27_step0 K X0 l_a0 gates iv0 v22v0:=by kernel_rfl
theorem f27_loop0 (K : List PA → Prop) (l_a0 : Line) (gates : (Sl Gate)) (iv0 : Int) (v22v0_n : Nat) (v22v0_g : Nat → List PV)
  (h:∀ X0:St→Prop,(∀ (iv0:Int) (v22v0:(Sl Int)),f27_step0 K X0 l_a0 gates iv0 v22v0→X0 (f27_g0 l_a0 gates iv0 v22v0.len (fun i=>enc_3 (v22v0.get i))))→X0 (f27_g0 l_a0 gates iv0 v22v0_n v22v0_g)) :
  f27_at0 K l_a0 gates iv0 v22v0_n v22v0_g:=by
  have e:f27_at0 K l_a0 gates iv0 v22v0_n v22v0_g=(∀ X:St→Prop,(∀ s,vc Try.prog G27 ann27 (cd (cdF Try.f27 [1,1,0,1,0]) [0]) (loopK Try.prog ann27 3 X (blockK 0 (sqK Try.prog G27 ann27 (cdF Try.f27 [1,1,1]) (bodyK Try.prog Try.f27 K)))) s→X s)→X (f27_g0 l_a0 gates iv0 v22v0_n v22v0_g)):=by kernel_rfl
  refine ofEq e ?_
  intro X hX
  refine h X ?_
  intro iv0 v22v0 hs
  refine hX _ ?_
  have e2:=f27_stepeq0 K X l_a0 gates iv0 v22v0
  rw [e2]
  exact hs
theorem f27_eq1 (K : List PA → Prop) (X0 : St → Prop) (l_a0 : Line) (gates : (Sl Gate)) (iv1 : Int) (t18v1 : Bool) (v22v1 : (Sl Int)) :
  f27_at1 K X0 l_a0 gates iv1 t18v1 v22v1.len (fun i=>enc_3 (v22v1.get i)) =
  (condP t18v1
   ((((v22v1.len+1) * 8≤140737488355328∧v22v1.len+1≤9223372036854775807)) ∧
   (X0 (f27_g0 l_a0 gates (w64 (iv1+(1:Int))) (v22v1.len+1) (appG v22v1.len (fun i=>enc_3 (v22v1.get i)) (fun _=>(enc_3 iv1))))))
   (X0 (f27_g0 l_a0 gates (w64 (iv1+(1:Int))) v22v1.len (fun i=>enc_3 (v22v1.get i))))):=by kernel_rfl
abbrev e27 (r:(Sl Int)):List PA:=[.one (.sl r.len 1 (fun i=>enc_3 (r.get i)))]
attribute [irreducible] f27_at0 f27_at1
def s27_at1 (S0:Int→(Sl Int)→(Sl Int)) (l_a0:Line) (gates:(Sl Gate)) (iv1:Int) (t18v1:Bool) (v22v1:(Sl Int)):(Sl Int) :=
  (cond t18v1
   (S0 (w64 (iv1+(1:Int))) (⟨(v22v1.len+1),(appT v22v1.len v22v1.get (fun _=>iv1))⟩:Sl Int))
   (S0 (w64 (iv1+(1:Int))) v22v1))
def p27_at1 (P0:Int→(Sl Int)→Bool) (l_a0:Line) (gates:(Sl Gate)) (iv1:Int) (t18v1:Bool) (v22v1:(Sl Int)):Bool :=
  (cond t18v1
   (decide (((v22v1.len+1) * 8≤140737488355328∧v22v1.len+1≤9223372036854775807)) &&
   (P0 (w64 (iv1+(1:Int))) (⟨(v22v1.len+1),(appT v22v1.len v22v1.get (fun _=>iv1))⟩:Sl Int)))
   (P0 (w64 (iv1+(1:Int))) v22v1))
theorem q27_at1 (K : List PA → Prop) (l_a0 : Line) (gates : (Sl Gate))
  (X0:St→Prop) (P0:Int→(Sl Int)→Bool) (S0:Int→(Sl Int)→(Sl Int))
  (hX0:∀ (iv0:Int) (v22v0:(Sl Int)) (v22v0_g:Nat→List PV) (v22v0_h:v22v0_g=fun i=>enc_3 (v22v0.get i)),P0 iv0 v22v0=true→K (e27 (S0 iv0 v22v0))→X0 (f27_g0 l_a0 gates iv0 v22v0.len v22v0_g)) (iv1:Int) (t18v1:Bool) (v22v1:(Sl Int)) (v22v1_g:Nat→List PV) (v22v1_h:v22v1_g=fun i=>enc_3 (v22v1.get i)) (hs:p27_at1 P0 l_a0 gates iv1 t18v1 v22v1=true) (hk:K (e27 (s27_at1 S0 l_a0 gates iv1 t18v1 v22v1))):f27_at1 K X0 l_a0 gates iv1 t18v1 v22v1.len v22v1_g:=by
  subst v22v1_h
  refine ofEq (f27_eq1 K X0 l_a0 gates iv1 t18v1 v22v1) ?_
  unfold p27_at1 at hs
  unfold s27_at1 at hk
  exact (condB_go (K := fun r => K (e27 r))
   (fun hs hk=>(andK hs fun hc hs=>⟨hc,(hX0 (w64 (iv1+(1:Int))) (⟨(v22v1.len+1),(appT v22v1.len v22v1.get (fun _=>iv1))⟩:Sl Int) (appG v22v1.len (fun i=>enc_3 (v22v1.get i)) (fun _=>(enc_3 iv1))) (appG_e (enc:=enc_3) (f:=v22v1.get) (h:=(fun _=>iv1)) rfl rfl) hs hk)⟩))
   (fun hs hk=>(hX0 (w64 (iv1+(1:Int))) v22v1 (fun i=>enc_3 (v22v1.get i)) rfl hs hk)) hs hk)
def s27_st0 (l_a0:Line) (gates:(Sl Gate)) (S0:Int→(Sl Int)→(Sl Int)) (iv0:Int) (v22v0:(Sl Int)):(Sl Int) :=
  (cond (decide (iv0 < (gates.len : Int)))
   (s27_at1 S0 l_a0 gates iv0 (s72 l_a0 (gates.get iv0.toNat)) v22v0)
   v22v0)
def p27_st0 (l_a0:Line) (gates:(Sl Gate)) (P0:Int→(Sl Int)→Bool) (iv0:Int) (v22v0:(Sl Int)):Bool :=
  (cond (decide (iv0 < (gates.len : Int)))
   (decide ((0≤iv0∧iv0 < (gates.len:Int))) &&
   (p27_at1 P0 l_a0 gates iv0 (s72 l_a0 (gates.get iv0.toNat)) v22v0))
   true)
def s27_lp0 (l_a0 : Line) (gates : (Sl Gate)) : Nat → Int → (Sl Int) → (Sl Int)
  | 0=>fun _ _=>default
  | k+1=>s27_st0 l_a0 gates (s27_lp0 l_a0 gates k)
def p27_lp0 (l_a0 : Line) (gates : (Sl Gate)) : Nat → Int → (Sl Int) → Bool
  | 0=>fun _ _=>false
  | k+1=>p27_st0 l_a0 gates (p27_lp0 l_a0 gates k)
def s27_at0 (l_a0:Line) (gates:(Sl Gate)) (iv0:Int) (v22v0:(Sl Int)):(Sl Int):=s27_lp0 l_a0 gates Fuel iv0 v22v0
def p27_at0 (l_a0:Line) (gates:(Sl Gate)) (iv0:Int) (v22v0:(Sl Int)):Bool:=p27_lp0 l_a0 gates Fuel iv0 v22v0
theorem q27_at0 (K:List PA→Prop) (l_a0:Line) (gates:(Sl Gate)) (iv0:Int) (v22v0:(Sl Int)) (v22v0_g:Nat→List PV) (v22v0_h:v22v0_g=fun i=>enc_3 (v22v0.get i)) (hs:p27_at0 l_a0 gates iv0 v22v0=true) (hk:K (e27 (s27_at0 l_a0 gates iv0 v22v0))):f27_at0 K l_a0 gates iv0 v22v0.len v22v0_g:=by
  refine f27_loop0 K l_a0 gates iv0 v22v0.len v22v0_g ?_
  intro X0 hstep
  have key:∀ (k:Nat) (iv0:Int) (v22v0:(Sl Int)) (v22v0_g:Nat→List PV) (v22v0_h:v22v0_g=fun i=>enc_3 (v22v0.get i)),p27_lp0 l_a0 gates k iv0 v22v0=true→K (e27 (s27_lp0 l_a0 gates k iv0 v22v0))→X0 (f27_g0 l_a0 gates iv0 v22v0.len v22v0_g):=by
    intro k
    induction k with
    | zero=>intro iv0 v22v0 v22v0_g v22v0_h hs;exact absurd hs Bool.false_ne_true
    | succ k ih =>
      intro iv0 v22v0 v22v0_g v22v0_h hs hk
      subst v22v0_h
      refine hstep iv0 v22v0 ?_
      have hs:p27_st0 l_a0 gates (p27_lp0 l_a0 gates k) iv0 v22v0=true:=hs
      have hk:K (e27 (s27_st0 l_a0 gates (s27_lp0 l_a0 gates k) iv0 v22v0)):=hk
      unfold p27_st0 at hs
      unfold s27_st0 at hk
      generalize s27_lp0 l_a0 gates k=S0 at hk ih
      generalize p27_lp0 l_a0 gates k=P0 at hs ih
      have hX0:=ih
      exact (condB_go (K := fun r => K (e27 r))
       (fun hs hk=>(andK hs fun hc hs=>⟨hc,(q27_at1 K l_a0 gates X0 P0 S0 hX0 iv0 (s72 l_a0 (gates.get iv0.toNat)) v22v0 (fun i=>enc_3 (v22v0.get i)) rfl hs hk)⟩))
       (fun hs hk=>hk) hs hk)
  exact key _ iv0 v22v0 v22v0_g v22v0_h hs hk
def s27 (l_a0:Line) (gates:(Sl Gate)):(Sl Int) :=
  (s27_at0 l_a0 gates (0:Int) (⟨0,(fun _=>default)⟩:Sl Int))
def p27 (l_a0:Line) (gates:(Sl Gate)):Bool :=
  (p27_at0 l_a0 gates (0:Int) (⟨0,(fun _=>default)⟩:Sl Int))
theorem q27 (l_a0:Line) (gates:(Sl Gate)) (K:List PA→Prop) (hs:p27 l_a0 gates=true) (hk:K (e27 (s27 l_a0 gates))):vcFun Try.prog G27 ann27 27 [.agg [.int .i64 l_a0.Slope.Num,.int .i64 l_a0.Slope.Den,.int .i64 l_a0.Start.Num,.int .i64 l_a0.Start.Den],.one (.sl gates.len 3 (fun i=>enc_55 (gates.get i)))] K:=by
  refine ofEq (f27_top l_a0 gates K) ?_
  unfold p27 at hs
  unfold s27 at hk
  exact (q27_at0 K l_a0 gates (0:Int) (⟨0,(fun _=>default)⟩:Sl Int) (fun i=>enc_3 ((fun _=>default) i)) rfl hs hk)
def ctr27 : List PA → COut
  | [.agg [.int .i64 a0_Slope_Num,.int .i64 a0_Slope_Den,.int .i64 a0_Start_Num,.int .i64 a0_Start_Den],.one (.sl a1_n a1_s a1_g)]=>.det (IsE enc_55 3 a1_s a1_g∧p27 (⟨(⟨a0_Slope_Num,a0_Slope_Den⟩:Frac),(⟨a0_Start_Num,a0_Start_Den⟩:Frac)⟩:Line) (⟨a1_n,decF_55 a1_g⟩:(Sl Gate))=true) [.one (.sl ((s27 (⟨(⟨a0_Slope_Num,a0_Slope_Den⟩:Frac),(⟨a0_Start_Num,a0_Start_Den⟩:Frac)⟩:Line) (⟨a1_n,decF_55 a1_g⟩:(Sl Gate))).len) 1 (fun i=>enc_3 ((s27 (⟨(⟨a0_Slope_Num,a0_Slope_Den⟩:Frac),(⟨a0_Start_Num,a0_Start_Den⟩:Frac)⟩:Line) (⟨a1_n,decF_55 a1_g⟩:(Sl Gate))).get i)))]
  | _=>.no
theorem call27:Callable Try.prog 27:=⟨_,rfl,rfl,by kernel_rfl⟩
theorem ok27:Ok Try.prog 27 ctr27:=ok_tab okT27 call27 fun args K h=>by
  unfold ctr27 at h
  split at h
  · rename_i a0_Slope_Num a0_Slope_Den a0_Start_Num a0_Start_Den a1_n a1_s a1_g
    obtain ⟨⟨⟨rfl,a1_f,rfl⟩,hs⟩,hk⟩:=h
    try rw [decF_enc_55 a1_f] at hs
    try rw [decF_enc_55 a1_f] at hk
    exact ⟨(fun _ _=>[]),(fun _=>false),ann27,q27 (⟨(⟨a0_Slope_Num,a0_Slope_Den⟩:Frac),(⟨a0_Start_Num,a0_Start_Den⟩:Frac)⟩:Line) (⟨a1_n,a1_f⟩:(Sl Gate)) K hs hk⟩
  · exact h.elim
end Go.Proofs
namespace Go.Proofs
open Go Go.Pm
set_option maxRecDepth 100000
set_option linter.unusedVariables false
attribute [local irreducible] Go.Pm.vcFun Go.Pm.vc Go.Pm.vcIter
abbrev T51:Tabs:=(Tabs.nil.addF 64 ctr64)
theorem okT51:TabsOk Try.prog T51:=(TabsOk.nil.addF ok64)
abbrev G51:Ctrs:=csm T51 (fun _ _=>[]) (fun _=>false)
def ann51:Ann:=⟨6,[(0,⟨[0],[],[],[],[],[],[]⟩),(1,⟨[5],[],[],[],[],[],[]⟩),(2,⟨[2],[],[],[],[],[],[]⟩),(3,⟨[2],[],[],[],[],[],[]⟩)],
  [],
  [],
  [],[]⟩
theorem f51_top (gates : (Sl Gate)) (K : List PA → Prop) :
  vcFun Try.prog G51 ann51 51 [.one (.sl gates.len 3 (fun i=>enc_55 (gates.get i)))] K =
  ((IsE enc_55 3 3 (fun i=>enc_55 (gates.get i))∧(p64 gates=true)) ∧
  (condP (!(s64 gates))
   (K [.one (.int .i64 (2:Int))])
   (K [.one (.int .i64 (0:Int))]))):=by kernel_rfl
abbrev e51 (r:Int):List PA:=[.one (.int .i64 r)]
def s51 (gates:(Sl Gate)):Int :=
  (cond (!(s64 gates))
   (2:Int)
   (0:Int))
def p51 (gates:(Sl Gate)):Bool :=
  (decide ((p64 gates=true)) &&
  true)
theorem q51 (gates:(Sl Gate)) (K:List PA→Prop) (hs:p51 gates=true) (hk:K (e51 (s51 gates))):vcFun Try.prog G51 ann51 51 [.one (.sl gates.len 3 (fun i=>enc_55 (gates.get i)))] K:=by
  refine ofEq (f51_top gates K) ?_
  unfold p51 at hs
  unfold s51 at hk
  exact (andK hs fun hc hs => ⟨⟨isE, hc⟩, (condP_gt (K := fun r => K (e51 r))
   (fun hk=>hk)
   (fun hk=>hk) hk)⟩)
def ctr51 : List PA → COut
  | [.one (.sl a0_n a0_s a0_g)]=>.det (IsE enc_55 3 a0_s a0_g∧p51 (⟨a0_n,decF_55 a0_g⟩:(Sl Gate))=true) [.one (.int .i64 (s51 (⟨a0_n,decF_55 a0_g⟩:(Sl Gate))))]
  | _=>.no
theorem call51:Callable Try.prog 51:=⟨_,rfl,rfl,by kernel_rfl⟩
theorem ok51:Ok Try.prog 51 ctr51:=ok_tab okT51 call51 fun args K h=>by
  unfold ctr51 at h
  split at h
  · rename_i a0_n a0_s a0_g
    obtain ⟨⟨⟨rfl,a0_f,rfl⟩,hs⟩,hk⟩:=h
    try rw [decF_enc_55 a0_f] at hs
    try rw [decF_enc_55 a0_f] at hk
    exact ⟨(fun _ _=>[]),(fun _=>false),ann51,q51 (⟨a0_n,a0_f⟩:(Sl Gate)) K hs hk⟩
  · exact h.elim
abbrev T90:Tabs:=((Tabs.nil.addF 74 ctr74).addF 114 ctr114)
theorem okT90:TabsOk Try.prog T90:=((TabsOk.nil.addF ok74).addF ok114)
abbrev G90:Ctrs:=csm T90 (fun _ _=>[]) (fun _=>false)
def ann90:Ann:=⟨31,[(0,⟨[1,2,3],[3],[],[],[],[],[]⟩),(1,⟨[6],[],[],[],[],[],[]⟩)],
  [],
  [],
  [],[]⟩
theorem f90_top (f : Frac) (den : Int) (num : Int) (K : List PA → Prop) :
  vcFun Try.prog G90 ann90 90 [.agg [.int .i64 f.Num,.int .i64 f.Den],.one (.int .i64 den),.one (.int .i64 num)] K =
  (condP (s74 f.Den (1:Int) den)
   (condP (s74 f.Num (w64 (0 - num)) num)
    (((p114 (if (w64 (0 - f.Num)) > f.Num then (w64 (0 - f.Num)) else f.Num) f.Den=true)) ∧
    (K [.one (.bool ((s114 (if (w64 (0 - f.Num)) > f.Num then (w64 (0 - f.Num)) else f.Num) f.Den) == (1:Int)))]))
    (K [.one (.bool false)]))
   (K [.one (.bool false)])):=by kernel_rfl
abbrev e90 (r:Bool):List PA:=[.one (.bool r)]
def s90 (f:Frac) (den:Int) (num:Int):Bool :=
  (cond (s74 f.Den (1:Int) den)
   (cond (s74 f.Num (w64 (0 - num)) num)
    ((s114 (if (w64 (0 - f.Num)) > f.Num then (w64 (0 - f.Num)) else f.Num) f.Den) == (1:Int))
    false)
   false)
def p90 (f:Frac) (den:Int) (num:Int):Bool :=
  (cond (s74 f.Den (1:Int) den)
   (cond (s74 f.Num (w64 (0 - num)) num)
    (decide ((p114 (if (w64 (0 - f.Num)) > f.Num then (w64 (0 - f.Num)) else f.Num) f.Den=true)) &&
    true)
    true)
   true)
theorem q90 (f:Frac) (den:Int) (num:Int) (K:List PA→Prop) (hs:p90 f den num=true) (hk:K (e90 (s90 f den num))):vcFun Try.prog G90 ann90 90 [.agg [.int .i64 f.Num,.int .i64 f.Den],.one (.int .i64 den),.one (.int .i64 num)] K:=by
  refine ofEq (f90_top f den num K) ?_
  unfold p90 at hs
  unfold s90 at hk
  exact (condB_go (K := fun r => K (e90 r))
   (fun hs hk => (condB_go (K := fun r => K (e90 r))
    (fun hs hk=>(andK hs fun hc hs=>⟨hc,hk⟩))
    (fun hs hk=>hk) hs hk))
   (fun hs hk=>hk) hs hk)
def ctr90 : List PA → COut
  | [.agg [.int .i64 a0_Num,.int .i64 a0_Den],.one (.int .i64 a1),.one (.int .i64 a2)]=>.det (p90 (⟨a0_Num,a0_Den⟩:Frac) a1 a2=true) [.one (.bool (s90 (⟨a0_Num,a0_Den⟩:Frac) a1 a2))]
  | _=>.no
theorem call90:Callable Try.prog 90:=⟨_,rfl,rfl,by kernel_rfl⟩
theorem ok90:Ok Try.prog 90 ctr90:=ok_tab okT90 call90 fun args K h=>by
  unfold ctr90 at h
  split at h
  · rename_i a0_Num a0_Den a1 a2
    obtain ⟨hs,hk⟩:=h
    exact ⟨(fun _ _=>[]),(fun _=>false),ann90,q90 (⟨a0_Num,a0_Den⟩:Frac) a1 a2 K hs hk⟩
  · exact h.elim
abbrev T52:Tabs:=(((Tabs.nil.addF 64 ctr64).addF 74 ctr74).addF 90 ctr90)
theorem okT52:TabsOk Try.prog T52:=(((TabsOk.nil.addF ok64).addF ok74).addF ok90)
abbrev G52:Ctrs:=csm T52 (fun _ _=>[]) (fun _=>false)
def ann52:Ann:=⟨72,[(0,⟨[1,2],[2],[],[],[],[],[]⟩),(1,⟨[1,2,24],[2],[],[],[],[],[]⟩),(2,⟨[4,5],[],[],[],[],[],[]⟩),(3,⟨[1,2,6],[2],[],[],[],[],[]⟩),(4,⟨[2,6,25,26,27],[2],[],[],[],[],[]⟩),(5,⟨[2,6,25,26,27,28],[2,69],[],[],[],[],[]⟩),(6,⟨[2,6,7,8,25,26,27],[2,8,69],[],[],[],[],[]⟩),(7,⟨[2,6,7,8,9,25,26,27],[2,8,69],[],[],[],[],[]⟩),(8,⟨[2,6,7,25,26,27,65],[2,69],[],[],[],[],[]⟩),(9,⟨[2,6,25,26,27],[2,69],[],[],[],[],[]⟩),(10,⟨[2,6,25,26,27],[2,69],[],[],[],[],[]⟩),(11,⟨[4,5],[69],[],[],[],[],[]⟩)],
  [(5,⟨[2,6,25,26,27],[2,69],[(6,69,3,fun _=>enc_3 default)],[],[],[],[]⟩)],
  [(2,⟨[1,2,24],[2],[],[],[],[],[]⟩),(3,⟨[1,2],[2],[],[],[],[],[]⟩),(9,⟨[2,6,7,25,26,27,65],[2,69],[],[],[],[],[]⟩)],
  [],[]⟩
def f52_g0 (l_a0:Line) (gates:(Sl Gate)) (t24v0:Bool):St:=⟨[(1,.one (.c (.p (.sl gates.len 3 (fun i=>enc_55 (gates.get i)))))),(2,.one (.c (.ptr 2 0))),(24,.one (.c (.p (.bool t24v0))))],[(2,.box 37 [.p (.int .i64 l_a0.Slope.Num),.p (.int .i64 l_a0.Slope.Den),.p (.int .i64 l_a0.Start.Num),.p (.int .i64 l_a0.Start.Den)])],[]⟩
def f52_at0 (K:List PA→Prop) (l_a0:Line) (gates:(Sl Gate)) (t24v0:Bool):Prop:=vc Try.prog G52 ann52 (cdF Try.f52 [1,0,1]) (sqK Try.prog G52 ann52 (cdF Try.f52 [1,1]) (bodyK Try.prog Try.f52 K)) (f52_g0 l_a0 gates t24v0)
def f52_g1 (l_a0:Line) (gates:(Sl Gate)):St:=⟨[(1,.one (.c (.p (.sl gates.len 3 (fun i=>enc_55 (gates.get i)))))),(2,.one (.c (.ptr 2 0)))],[(2,.box 37 [.p (.int .i64 l_a0.Slope.Num),.p (.int .i64 l_a0.Slope.Den),.p (.int .i64 l_a0.Start.Num),.p (.int .i64 l_a0.Start.Den)])],[]⟩
def f52_at1 (K:List PA→Prop) (l_a0:Line) (gates:(Sl Gate)):Prop:=vc Try.prog G52 ann52 (cdF Try.f52 [1,1]) (bodyK Try.prog Try.f52 K) (f52_g1 l_a0 gates)
def f52_g2 (l_a0:Line) (gates:(Sl Gate)) (t27v2:Int) (v69v2_n:Nat) (v69v2_g:Nat→List PV):St:=⟨[(2,.one (.c (.ptr 2 0))),(6,.one (.c (.vec 69))),(25,.one (.c (.p (.sl gates.len 3 (fun i=>enc_55 (gates.get i)))))),(26,.one (.c (.p (.int .i64 (gates.len:Int))))),(27,.one (.c (.p (.int .i64 t27v2))))],[(2,.box 37 [.p (.int .i64 l_a0.Slope.Num),.p (.int .i64 l_a0.Slope.Den),.p (.int .i64 l_a0.Start.Num),.p (.int .i64 l_a0.Start.Den)]),(69,.vec 3 1 8 v69v2_n v69v2_g)],[]⟩
def f52_at2 (K:List PA→Prop) (l_a0:Line) (gates:(Sl Gate)) (t27v2:Int) (v69v2_n:Nat) (v69v2_g:Nat→List PV):Prop:=vc Try.prog G52 ann52 (cdF Try.f52 [1,1,1,0,1,0]) (blockK 0 (sqK Try.prog G52 ann52 (cdF Try.f52 [1,1,1,1]) (bodyK Try.prog Try.f52 K))) (f52_g2 l_a0 gates t27v2 v69v2_n v69v2_g)
def f52_g3 (l_a0:Line) (gates:(Sl Gate)) (iv3:Int) (t27v3:Int) (t65v3:Bool) (v69v3_n:Nat) (v69v3_g:Nat→List PV):St:=⟨[(2,.one (.c (.ptr 2 0))),(6,.one (.c (.vec 69))),(7,.one (.c (.p (.int .i64 iv3)))),(25,.one (.c (.p (.sl gates.len 3 (fun i=>enc_55 (gates.get i)))))),(26,.one (.c (.p (.int .i64 (gates.len:Int))))),(27,.one (.c (.p (.int .i64 t27v3)))),(65,.one (.c (.p (.bool t65v3))))],[(2,.box 37 [.p (.int .i64 l_a0.Slope.Num),.p (.int .i64 l_a0.Slope.Den),.p (.int .i64 l_a0.Start.Num),.p (.int .i64 l_a0.Start.Den)]),(69,.vec 3 1 8 v69v3_n v69v3_g)],[]⟩
def f52_at3 (K:List PA→Prop) (X2:St→Prop) (l_a0:Line) (gates:(Sl Gate)) (iv3:Int) (t27v3:Int) (t65v3:Bool) (v69v3_n:Nat) (v69v3_g:Nat→List PV):Prop:=vc Try.prog G52 ann52 (cdF Try.f52 [1,1,1,0,1,0,0,1,1,0,0,1,1,1]) (blockK 1 (sqK Try.prog G52 ann52 (cdF Try.f52 [1,1,1,0,1,0,0,1,1,1]) (loopK Try.prog ann52 5 X2 (blockK 0 (sqK Try.prog G52 ann52 (cdF Try.f52 [1,1,1,1]) (bodyK Try.prog Try.f52 K)))))) (f52_g3 l_a0 gates iv3 t27v3 t65v3 v69v3_n v69v3_g)
theorem f52_top (l_a0 : Line) (gates : (Sl Gate)) (K : List PA → Prop) :
  vcFun Try.prog G52 ann52 52 [.agg [.int .i64 l_a0.Slope.Num,.int .i64 l_a0.Slope.Den,.int .i64 l_a0.Start.Num,.int .i64 l_a0.Start.Den],.one (.sl gates.len 3 (fun i=>enc_55 (gates.get i)))] K =
  (((p90 l_a0.Slope (100000:Int) (2000000:Int)=true)) ∧
  (condP (!(s90 l_a0.Slope (100000:Int) (2000000:Int)))
   (f52_at0 K l_a0 gates true)
   (((p90 l_a0.Start (100000:Int) (1000000000000:Int)=true)) ∧
   (condP (!(s90 l_a0.Start (100000:Int) (1000000000000:Int)))
    (f52_at0 K l_a0 gates true)
    ((IsE enc_55 3 3 (fun i=>enc_55 (gates.get i))∧(p64 gates=true)) ∧
    (f52_at0 K l_a0 gates (!(s64 gates)))))))):=by kernel_rfl
theorem f52_eq0 (K : List PA → Prop) (l_a0 : Line) (gates : (Sl Gate)) (t24v0 : Bool) :
  f52_at0 K l_a0 gates t24v0 =
  (condP t24v0
   (K [.one (.nils),.one (.int .i64 (2:Int))])
   (f52_at1 K l_a0 gates)):=by kernel_rfl
theorem f52_eq1 (K : List PA → Prop) (l_a0 : Line) (gates : (Sl Gate)) :
  f52_at1 K l_a0 gates =
  (f52_at2 K l_a0 gates (0:Int) 0 (fun i=>enc_3 ((fun _=>default) i))):=by kernel_rfl
def f52_step2 (K:List PA→Prop) (X2:St→Prop) (l_a0:Line) (gates:(Sl Gate)) (t27v2:Int) (v69v2:(Sl Int)):Prop :=
  (condP (decide (t27v2 < (gates.len : Int)))
   (((0≤t27v2∧t27v2 < (gates.len:Int))) ∧
   (f52_at3 K X2 l_a0 gates t27v2 t27v2 (s74 (w64 ((w64 (l_a0.Start.Num * l_a0.Slope.Den))+(w64 ((w64 (l_a0.Slope.Num * (gates.get t27v2.toNat).Z)) * l_a0.Start.Den)))) (w64 ((gates.get t27v2.toNat).Low * (w64 (l_a0.Slope.Den * l_a0.Start.Den)))) (w64 ((gates.get t27v2.toNat).High * (w64 (l_a0.Slope.Den * l_a0.Start.Den))))) v69v2.len (fun i=>enc_3 (v69v2.get i))))
   (K [.one (.sl v69v2.len 1 (fun i=>enc_3 (v69v2.get i))),.one (.int .i64 (0:Int))]))
theorem f52_stepeq2 (K : List PA → Prop) (X2 : St → Prop) (l_a0 : Line) (gates : (Sl Gate)) (t27v2 : Int) (v69v2 : (Sl Int)) :
  vc Try.prog G52 ann52 (cd (cdF Try.f52 [1,1,1,0,1,0]) [0]) (loopK Try.prog ann52 5 X2 (blockK 0 (sqK Try.prog G52 ann52 (cdF Try.f52 [1,1,1,1]) (bodyK Try.prog Try.f52 K)))) (f52_g2 l_a0 gates t27v2 v69v2.len (fun i=>enc_3 (v69v2.get i))) =
  f52_step2 K X2 l_a0 gates t27v2 v69v2:=by kernel_rfl
theorem f52_loop2 (K : List PA → Prop) (l_a0 : Line) (gates : (Sl Gate)) (t27v2 : Int) (v69v2_n : Nat) (v69v2_g : Nat → List PV)
  (h:∀ X2:St→Prop,(∀ (t27v2:Int) (v69v2:(Sl Int)),f52_step2 K X2 l_a0 gates t27v2 v69v2→X2 (f52_g2 l_a0 gates t27v2 v69v2.len (fun i=>enc_3 (v69v2.get i))))→X2 (f52_g2 l_a0 gates t27v2 v69v2_n v69v2_g)) :
  f52_at2 K l_a0 gates t27v2 v69v2_n v69v2_g:=by
  have e:f52_at2 K l_a0 gates t27v2 v69v2_n v69v2_g=(∀ X:St→Prop,(∀ s,vc Try.prog G52 ann52 (cd (cdF Try.f52 [1,1,1,0,1,0]) [0]) (loopK Try.prog ann52 5 X (blockK 0 (sqK Try.prog G52 ann52 (cdF Try.f52 [1,1,1,1]) (bodyK Try.prog Try.f52 K)))) s→X s)→X (f52_g2 l_a0 gates t27v2 v69v2_n v69v2_g)):=by kernel_rfl
  refine ofEq e ?_
  intro X hX
  refine h X ?_
  intro t27v2 v69v2 hs
  refine hX _ ?_
  have e2:=f52_stepeq2 K X l_a0 gates t27v2 v69v2
  rw [e2]
  exact hs
theorem f52_eq3 (K : List PA → Prop) (X2 : St → Prop) (l_a0 : Line) (gates : (Sl Gate)) (iv3 : Int) (t27v3 : Int) (t65v3 : Bool) (v69v3 : (Sl Int)) :
  f52_at3 K X2 l_a0 gates iv3 t27v3 t65v3 v69v3.len (fun i=>enc_3 (v69v3.get i)) =
  (condP t65v3
   ((((v69v3.len+1) * 8≤140737488355328∧v69v3.len+1≤9223372036854775807)) ∧
   (X2 (f52_g2 l_a0 gates (w64 (t27v3+(1:Int))) (v69v3.len+1) (appG v69v3.len (fun i=>enc_3 (v69v3.get i)) (fun _=>(enc_3 iv3))))))
   (X2 (f52_g2 l_a0 gates (w64 (t27v3+(1:Int))) v69v3.len (fun i=>enc_3 (v69v3.get i))))):=by kernel_rfl
abbrev e52 (r:((Sl Int)×Int)):List PA:=[.one (.sl r.1.len 1 (fun i=>enc_3 (r.1.get i))),.one (.int .i64 r.2)]
attribute [irreducible] f52_at0 f52_at1 f52_at2 f52_at3
def s52_at3 (S2:Int→(Sl Int)→((Sl Int)×Int)) (l_a0:Line) (gates:(Sl Gate)) (iv3:Int) (t27v3:Int) (t65v3:Bool) (v69v3:(Sl Int)):((Sl Int)×Int) :=
  (cond t65v3
   (S2 (w64 (t27v3+(1:Int))) (⟨(v69v3.len+1),(appT v69v3.len v69v3.get (fun _=>iv3))⟩:Sl Int))
   (S2 (w64 (t27v3+(1:Int))) v69v3))
def p52_at3 (P2:Int→(Sl Int)→Bool) (l_a0:Line) (gates:(Sl Gate)) (iv3:Int) (t27v3:Int) (t65v3:Bool) (v69v3:(Sl Int)):Bool :=
  (cond t65v3
   (decide (((v69v3.len+1) * 8≤140737488355328∧v69v3.len+1≤9223372036854775807)) &&
   (P2 (w64 (t27v3+(1:Int))) (⟨(v69v3.len+1),(appT v69v3.len v69v3.get (fun _=>iv3))⟩:Sl Int)))
   (P2 (w64 (t27v3+(1:Int))) v69v3))
theorem q52_at3 (K : List PA → Prop) (l_a0 : Line) (gates : (Sl Gate))
  (X2:St→Prop) (P2:Int→(Sl Int)→Bool) (S2:Int→(Sl Int)→((Sl Int)×Int))
  (hX2:∀ (t27v2:Int) (v69v2:(Sl Int)) (v69v2_g:Nat→List PV) (v69v2_h:v69v2_g=fun i=>enc_3 (v69v2.get i)),P2 t27v2 v69v2=true→K (e52 (S2 t27v2 v69v2))→X2 (f52_g2 l_a0 gates t27v2 v69v2.len v69v2_g)) (iv3:Int) (t27v3:Int) (t65v3:Bool) (v69v3:(Sl Int)) (v69v3_g:Nat→List PV) (v69v3_h:v69v3_g=fun i=>enc_3 (v69v3.get i)) (hs:p52_at3 P2 l_a0 gates iv3 t27v3 t65v3 v69v3=true) (hk:K (e52 (s52_at3 S2 l_a0 gates iv3 t27v3 t65v3 v69v3))):f52_at3 (Wk K) X2 l_a0 gates iv3 t27v3 t65v3 v69v3.len v69v3_g:=by
  subst v69v3_h
  refine ofEq (f52_eq3 (Wk K) X2 l_a0 gates iv3 t27v3 t65v3 v69v3) ?_
  unfold p52_at3 at hs
  unfold s52_at3 at hk
  exact (condB_go (K := fun r => K (e52 r))
   (fun hs hk=>(andK hs fun hc hs=>⟨hc,(hX2 (w64 (t27v3+(1:Int))) (⟨(v69v3.len+1),(appT v69v3.len v69v3.get (fun _=>iv3))⟩:Sl Int) (appG v69v3.len (fun i=>enc_3 (v69v3.get i)) (fun _=>(enc_3 iv3))) (appG_e (enc:=enc_3) (f:=v69v3.get) (h:=(fun _=>iv3)) rfl rfl) hs hk)⟩))
   (fun hs hk=>(hX2 (w64 (t27v3+(1:Int))) v69v3 (fun i=>enc_3 (v69v3.get i)) rfl hs hk)) hs hk)
def s52_st2 (l_a0:Line) (gates:(Sl Gate)) (S2:Int→(Sl Int)→((Sl Int)×Int)) (t27v2:Int) (v69v2:(Sl Int)):((Sl Int)×Int) :=
  (cond (decide (t27v2 < (gates.len : Int)))
   (s52_at3 S2 l_a0 gates t27v2 t27v2 (s74 (w64 ((w64 (l_a0.Start.Num * l_a0.Slope.Den))+(w64 ((w64 (l_a0.Slope.Num * (gates.get t27v2.toNat).Z)) * l_a0.Start.Den)))) (w64 ((gates.get t27v2.toNat).Low * (w64 (l_a0.Slope.Den * l_a0.Start.Den)))) (w64 ((gates.get t27v2.toNat).High * (w64 (l_a0.Slope.Den * l_a0.Start.Den))))) v69v2)
   (v69v2,(0:Int)))
def p52_st2 (l_a0:Line) (gates:(Sl Gate)) (P2:Int→(Sl Int)→Bool) (t27v2:Int) (v69v2:(Sl Int)):Bool :=
  (cond (decide (t27v2 < (gates.len : Int)))
   (decide ((0≤t27v2∧t27v2 < (gates.len:Int))) &&
   (p52_at3 P2 l_a0 gates t27v2 t27v2 (s74 (w64 ((w64 (l_a0.Start.Num * l_a0.Slope.Den))+(w64 ((w64 (l_a0.Slope.Num * (gates.get t27v2.toNat).Z)) * l_a0.Start.Den)))) (w64 ((gates.get t27v2.toNat).Low * (w64 (l_a0.Slope.Den * l_a0.Start.Den)))) (w64 ((gates.get t27v2.toNat).High * (w64 (l_a0.Slope.Den * l_a0.Start.Den))))) v69v2))
   true)
def s52_lp2 (l_a0 : Line) (gates : (Sl Gate)) : Nat → Int → (Sl Int) → ((Sl Int) × Int)
  | 0=>fun _ _=>default
  | k+1=>s52_st2 l_a0 gates (s52_lp2 l_a0 gates k)
def p52_lp2 (l_a0 : Line) (gates : (Sl Gate)) : Nat → Int → (Sl Int) → Bool
  | 0=>fun _ _=>false
  | k+1=>p52_st2 l_a0 gates (p52_lp2 l_a0 gates k)
def s52_at2 (l_a0:Line) (gates:(Sl Gate)) (t27v2:Int) (v69v2:(Sl Int)):((Sl Int)×Int):=s52_lp2 l_a0 gates Fuel t27v2 v69v2
def p52_at2 (l_a0:Line) (gates:(Sl Gate)) (t27v2:Int) (v69v2:(Sl Int)):Bool:=p52_lp2 l_a0 gates Fuel t27v2 v69v2
theorem q52_at2 (K:List PA→Prop) (l_a0:Line) (gates:(Sl Gate)) (t27v2:Int) (v69v2:(Sl Int)) (v69v2_g:Nat→List PV) (v69v2_h:v69v2_g=fun i=>enc_3 (v69v2.get i)) (hs:p52_at2 l_a0 gates t27v2 v69v2=true) (hk:K (e52 (s52_at2 l_a0 gates t27v2 v69v2))):f52_at2 (Wk K) l_a0 gates t27v2 v69v2.len v69v2_g:=by
  refine f52_loop2 (Wk K) l_a0 gates t27v2 v69v2.len v69v2_g ?_
  intro X2 hstep
  have key:∀ (k:Nat) (t27v2:Int) (v69v2:(Sl Int)) (v69v2_g:Nat→List PV) (v69v2_h:v69v2_g=fun i=>enc_3 (v69v2.get i)),p52_lp2 l_a0 gates k t27v2 v69v2=true→K (e52 (s52_lp2 l_a0 gates k t27v2 v69v2))→X2 (f52_g2 l_a0 gates t27v2 v69v2.len v69v2_g):=by
    intro k
    induction k with
    | zero=>intro t27v2 v69v2 v69v2_g v69v2_h hs;exact absurd hs Bool.false_ne_true
    | succ k ih =>
      intro t27v2 v69v2 v69v2_g v69v2_h hs hk
      subst v69v2_h
      refine hstep t27v2 v69v2 ?_
      have hs:p52_st2 l_a0 gates (p52_lp2 l_a0 gates k) t27v2 v69v2=true:=hs
      have hk:K (e52 (s52_st2 l_a0 gates (s52_lp2 l_a0 gates k) t27v2 v69v2)):=hk
      unfold p52_st2 at hs
      unfold s52_st2 at hk
      generalize s52_lp2 l_a0 gates k=S2 at hk ih
      generalize p52_lp2 l_a0 gates k=P2 at hs ih
      have hX2:=ih
      exact (condB_go (K := fun r => K (e52 r))
       (fun hs hk=>(andK hs fun hc hs=>⟨hc,(q52_at3 K l_a0 gates X2 P2 S2 hX2 t27v2 t27v2 (s74 (w64 ((w64 (l_a0.Start.Num * l_a0.Slope.Den))+(w64 ((w64 (l_a0.Slope.Num * (gates.get t27v2.toNat).Z)) * l_a0.Start.Den)))) (w64 ((gates.get t27v2.toNat).Low * (w64 (l_a0.Slope.Den * l_a0.Start.Den)))) (w64 ((gates.get t27v2.toNat).High * (w64 (l_a0.Slope.Den * l_a0.Start.Den))))) v69v2 (fun i=>enc_3 (v69v2.get i)) rfl hs hk)⟩))
       (fun hs hk=>(wk_rfl hk)) hs hk)
  exact key _ t27v2 v69v2 v69v2_g v69v2_h hs hk
def s52_at1 (l_a0:Line) (gates:(Sl Gate)):((Sl Int)×Int) :=
  (s52_at2 l_a0 gates (0:Int) (⟨0,(fun _=>default)⟩:Sl Int))
def p52_at1 (l_a0:Line) (gates:(Sl Gate)):Bool :=
  (p52_at2 l_a0 gates (0:Int) (⟨0,(fun _=>default)⟩:Sl Int))
theorem q52_at1 (K:List PA→Prop) (l_a0:Line) (gates:(Sl Gate)) (hs:p52_at1 l_a0 gates=true) (hk:K (e52 (s52_at1 l_a0 gates))):f52_at1 (Wk K) l_a0 gates:=by
  refine ofEq (f52_eq1 (Wk K) l_a0 gates) ?_
  unfold p52_at1 at hs
  unfold s52_at1 at hk
  exact (q52_at2 K l_a0 gates (0:Int) (⟨0,(fun _=>default)⟩:Sl Int) (fun i=>enc_3 ((fun _=>default) i)) rfl hs hk)
def s52_at0 (l_a0:Line) (gates:(Sl Gate)) (t24v0:Bool):((Sl Int)×Int) :=
  (cond t24v0
   ((⟨0,fun _=>default⟩:(Sl Int)),(2:Int))
   (s52_at1 l_a0 gates))
def p52_at0 (l_a0:Line) (gates:(Sl Gate)) (t24v0:Bool):Bool :=
  (cond t24v0
   true
   (p52_at1 l_a0 gates))
theorem q52_at0 (K:List PA→Prop) (l_a0:Line) (gates:(Sl Gate)) (t24v0:Bool) (hs:p52_at0 l_a0 gates t24v0=true) (hk:K (e52 (s52_at0 l_a0 gates t24v0))):f52_at0 (Wk K) l_a0 gates t24v0:=by
  refine ofEq (f52_eq0 (Wk K) l_a0 gates t24v0) ?_
  unfold p52_at0 at hs
  unfold s52_at0 at hk
  exact (condB_go (K := fun r => K (e52 r))
   (fun hs hk=>(wk hk (rl_c (.one (.nil _ _)) (rl_c (.one (.rfl _)) rl_n))))
   (fun hs hk=>(q52_at1 K l_a0 gates hs hk)) hs hk)
def s52 (l_a0:Line) (gates:(Sl Gate)):((Sl Int)×Int) :=
  (cond (!(s90 l_a0.Slope (100000:Int) (2000000:Int)))
   (s52_at0 l_a0 gates true)
   (cond (!(s90 l_a0.Start (100000:Int) (1000000000000:Int)))
    (s52_at0 l_a0 gates true)
    (s52_at0 l_a0 gates (!(s64 gates)))))
def p52 (l_a0:Line) (gates:(Sl Gate)):Bool :=
  (decide ((p90 l_a0.Slope (100000:Int) (2000000:Int)=true)) &&
  (cond (!(s90 l_a0.Slope (100000:Int) (2000000:Int)))
   (p52_at0 l_a0 gates true)
   (decide ((p90 l_a0.Start (100000:Int) (1000000000000:Int)=true)) &&
   (cond (!(s90 l_a0.Start (100000:Int) (1000000000000:Int)))
    (p52_at0 l_a0 gates true)
    (decide ((p64 gates=true)) &&
    (p52_at0 l_a0 gates (!(s64 gates))))))))
theorem q52 (l_a0:Line) (gates:(Sl Gate)) (K:List PA→Prop) (hs:p52 l_a0 gates=true) (hk:K (e52 (s52 l_a0 gates))):vcFun Try.prog G52 ann52 52 [.agg [.int .i64 l_a0.Slope.Num,.int .i64 l_a0.Slope.Den,.int .i64 l_a0.Start.Num,.int .i64 l_a0.Start.Den],.one (.sl gates.len 3 (fun i=>enc_55 (gates.get i)))] (Wk K):=by
  refine ofEq (f52_top l_a0 gates (Wk K)) ?_
  unfold p52 at hs
  unfold s52 at hk
  exact (andK hs fun hc hs => ⟨hc, (condB_go (K := fun r => K (e52 r))
   (fun hs hk=>(q52_at0 K l_a0 gates true hs hk))
   (fun hs hk => (andK hs fun hc hs => ⟨hc, (condB_go (K := fun r => K (e52 r))
    (fun hs hk=>(q52_at0 K l_a0 gates true hs hk))
    (fun hs hk=>(andK hs fun hc hs=>⟨⟨isE,hc⟩,(q52_at0 K l_a0 gates (!(s64 gates)) hs hk)⟩)) hs hk)⟩)) hs hk)⟩)
def ctr52 : List PA → COut
  | [.agg [.int .i64 a0_Slope_Num,.int .i64 a0_Slope_Den,.int .i64 a0_Start_Num,.int .i64 a0_Start_Den],.one (.sl a1_n a1_s a1_g)]=>.det (IsE enc_55 3 a1_s a1_g∧p52 (⟨(⟨a0_Slope_Num,a0_Slope_Den⟩:Frac),(⟨a0_Start_Num,a0_Start_Den⟩:Frac)⟩:Line) (⟨a1_n,decF_55 a1_g⟩:(Sl Gate))=true) [.one (.sl (((s52 (⟨(⟨a0_Slope_Num,a0_Slope_Den⟩:Frac),(⟨a0_Start_Num,a0_Start_Den⟩:Frac)⟩:Line) (⟨a1_n,decF_55 a1_g⟩:(Sl Gate))).1).len) 1 (fun i=>enc_3 (((s52 (⟨(⟨a0_Slope_Num,a0_Slope_Den⟩:Frac),(⟨a0_Start_Num,a0_Start_Den⟩:Frac)⟩:Line) (⟨a1_n,decF_55 a1_g⟩:(Sl Gate))).1).get i))),.one (.int .i64 ((s52 (⟨(⟨a0_Slope_Num,a0_Slope_Den⟩:Frac),(⟨a0_Start_Num,a0_Start_Den⟩:Frac)⟩:Line) (⟨a1_n,decF_55 a1_g⟩:(Sl Gate))).2))]
  | _=>.no
theorem call52:Callable Try.prog 52:=⟨_,rfl,rfl,by kernel_rfl⟩
theorem ok52:Ok Try.prog 52 ctr52:=ok_tabW okT52 call52 fun args K h=>by
  unfold ctr52 at h
  split at h
  · rename_i a0_Slope_Num a0_Slope_Den a0_Start_Num a0_Start_Den a1_n a1_s a1_g
    obtain ⟨⟨⟨rfl,a1_f,rfl⟩,hs⟩,hk⟩:=h
    try rw [decF_enc_55 a1_f] at hs
    try rw [decF_enc_55 a1_f] at hk
    exact ⟨_,rl_rfl pa_rfl _,(fun _ _=>[]),(fun _=>false),ann52,q52 (⟨(⟨a0_Slope_Num,a0_Slope_Den⟩:Frac),(⟨a0_Start_Num,a0_Start_Den⟩:Frac)⟩:Line) (⟨a1_n,a1_f⟩:(Sl Gate)) K hs hk⟩
  · exact h.elim
abbrev T91:Tabs:=((Tabs.nil.addF 70 ctr70).addF 73 ctr73)
theorem okT91:TabsOk Try.prog T91:=((TabsOk.nil.addF ok70).addF ok73)
abbrev G91:Ctrs:=csm T91 (fun _ _=>[]) (fun _=>false)
def ann91:Ann:=⟨28,[(0,⟨[1,2],[2],[],[],[],[],[]⟩),(1,⟨[4],[],[],[],[],[],[]⟩)],
  [],
  [],
  [],[]⟩
theorem f91_top (f : Frac) (most : Int) (K : List PA → Prop) :
  vcFun Try.prog G91 ann91 91 [.agg [.int .i64 f.Num,.int .i64 f.Den],.one (.int .i64 most)] K =
  (condP (s70 f.Den (1:Int) (100000:Int))
   (condP (s70 f.Num (w64 (0 - most)) most)
    (((p73 (if (w64 (0 - f.Num)) > f.Num then (w64 (0 - f.Num)) else f.Num) f.Den=true)) ∧
    (K [.one (.bool ((s73 (if (w64 (0 - f.Num)) > f.Num then (w64 (0 - f.Num)) else f.Num) f.Den) == (1:Int)))]))
    (K [.one (.bool false)]))
   (K [.one (.bool false)])):=by kernel_rfl
abbrev e91 (r:Bool):List PA:=[.one (.bool r)]
def s91 (f:Frac) (most:Int):Bool :=
  (cond (s70 f.Den (1:Int) (100000:Int))
   (cond (s70 f.Num (w64 (0 - most)) most)
    ((s73 (if (w64 (0 - f.Num)) > f.Num then (w64 (0 - f.Num)) else f.Num) f.Den) == (1:Int))
    false)
   false)
def p91 (f:Frac) (most:Int):Bool :=
  (cond (s70 f.Den (1:Int) (100000:Int))
   (cond (s70 f.Num (w64 (0 - most)) most)
    (decide ((p73 (if (w64 (0 - f.Num)) > f.Num then (w64 (0 - f.Num)) else f.Num) f.Den=true)) &&
    true)
    true)
   true)
theorem q91 (f:Frac) (most:Int) (K:List PA→Prop) (hs:p91 f most=true) (hk:K (e91 (s91 f most))):vcFun Try.prog G91 ann91 91 [.agg [.int .i64 f.Num,.int .i64 f.Den],.one (.int .i64 most)] K:=by
  refine ofEq (f91_top f most K) ?_
  unfold p91 at hs
  unfold s91 at hk
  exact (condB_go (K := fun r => K (e91 r))
   (fun hs hk => (condB_go (K := fun r => K (e91 r))
    (fun hs hk=>(andK hs fun hc hs=>⟨hc,hk⟩))
    (fun hs hk=>hk) hs hk))
   (fun hs hk=>hk) hs hk)
def ctr91 : List PA → COut
  | [.agg [.int .i64 a0_Num,.int .i64 a0_Den],.one (.int .i64 a1)]=>.det (p91 (⟨a0_Num,a0_Den⟩:Frac) a1=true) [.one (.bool (s91 (⟨a0_Num,a0_Den⟩:Frac) a1))]
  | _=>.no
theorem call91:Callable Try.prog 91:=⟨_,rfl,rfl,by kernel_rfl⟩
theorem ok91:Ok Try.prog 91 ctr91:=ok_tab okT91 call91 fun args K h=>by
  unfold ctr91 at h
  split at h
  · rename_i a0_Num a0_Den a1
    obtain ⟨hs,hk⟩:=h
    exact ⟨(fun _ _=>[]),(fun _=>false),ann91,q91 (⟨a0_Num,a0_Den⟩:Frac) a1 K hs hk⟩
  · exact h.elim
abbrev T53:Tabs:=(Tabs.nil.addF 91 ctr91)
theorem okT53:TabsOk Try.prog T53:=(TabsOk.nil.addF ok91)
abbrev G53:Ctrs:=csm T53 (fun _ _=>[]) (fun _=>false)
def ann53:Ann:=⟨11,[(0,⟨[1],[1],[],[],[],[],[]⟩),(1,⟨[2],[],[],[],[],[],[]⟩)],
  [],
  [],
  [],[]⟩
theorem f53_top (l_a0 : Line) (K : List PA → Prop) :
  vcFun Try.prog G53 ann53 53 [.agg [.int .i64 l_a0.Slope.Num,.int .i64 l_a0.Slope.Den,.int .i64 l_a0.Start.Num,.int .i64 l_a0.Start.Den]] K =
  (((p91 l_a0.Slope (2000000:Int)=true)) ∧
  (condP (s91 l_a0.Slope (2000000:Int))
   (((p91 l_a0.Start (1000000000000:Int)=true)) ∧
   (K [.one (.bool (s91 l_a0.Start (1000000000000:Int)))]))
   (K [.one (.bool false)]))):=by kernel_rfl
abbrev e53 (r:Bool):List PA:=[.one (.bool r)]
def s53 (l_a0:Line):Bool :=
  (cond (s91 l_a0.Slope (2000000:Int))
   (s91 l_a0.Start (1000000000000:Int))
   false)
def p53 (l_a0:Line):Bool :=
  (decide ((p91 l_a0.Slope (2000000:Int)=true)) &&
  (cond (s91 l_a0.Slope (2000000:Int))
   (decide ((p91 l_a0.Start (1000000000000:Int)=true)) &&
   true)
   true))
theorem q53 (l_a0:Line) (K:List PA→Prop) (hs:p53 l_a0=true) (hk:K (e53 (s53 l_a0))):vcFun Try.prog G53 ann53 53 [.agg [.int .i64 l_a0.Slope.Num,.int .i64 l_a0.Slope.Den,.int .i64 l_a0.Start.Num,.int .i64 l_a0.Start.Den]] K:=by
  refine ofEq (f53_top l_a0 K) ?_
  unfold p53 at hs
  unfold s53 at hk
  exact (andK hs fun hc hs => ⟨hc, (condB_go (K := fun r => K (e53 r))
   (fun hs hk=>(andK hs fun hc hs=>⟨hc,hk⟩))
   (fun hs hk=>hk) hs hk)⟩)
def ctr53 : List PA → COut
  | [.agg [.int .i64 a0_Slope_Num,.int .i64 a0_Slope_Den,.int .i64 a0_Start_Num,.int .i64 a0_Start_Den]]=>.det (p53 (⟨(⟨a0_Slope_Num,a0_Slope_Den⟩:Frac),(⟨a0_Start_Num,a0_Start_Den⟩:Frac)⟩:Line)=true) [.one (.bool (s53 (⟨(⟨a0_Slope_Num,a0_Slope_Den⟩:Frac),(⟨a0_Start_Num,a0_Start_Den⟩:Frac)⟩:Line)))]
  | _=>.no
theorem call53:Callable Try.prog 53:=⟨_,rfl,rfl,by kernel_rfl⟩
theorem ok53:Ok Try.prog 53 ctr53:=ok_tab okT53 call53 fun args K h=>by
  unfold ctr53 at h
  split at h
  · rename_i a0_Slope_Num a0_Slope_Den a0_Start_Num a0_Start_Den
    obtain ⟨hs,hk⟩:=h
    exact ⟨(fun _ _=>[]),(fun _=>false),ann53,q53 (⟨(⟨a0_Slope_Num,a0_Slope_Den⟩:Frac),(⟨a0_Start_Num,a0_Start_Den⟩:Frac)⟩:Line) K hs hk⟩
  · exact h.elim
end Go.Proofs
namespace Go.Proofs
open Go Go.Pm
set_option maxRecDepth 100000
set_option linter.unusedVariables false
attribute [local irreducible] Go.Pm.vcFun Go.Pm.vc Go.Pm.vcIter
abbrev T13:Tabs:=(((((((Tabs.nil.addF 18 ctr18).addF 20 ctr20).addF 27 ctr27).addF 39 ctr39).addF 51 ctr51).addF 52 ctr52).addF 53 ctr53)
theorem okT13:TabsOk Try.prog T13:=(((((((TabsOk.nil.addF ok18).addF ok20).addF ok27).addF ok39).addF ok51).addF ok52).addF ok53)
abbrev G13:Ctrs:=csm T13 (fun _ _=>[]) (fun _=>false)
def ann13:Ann:=⟨66,[(0,⟨[1,2],[2],[],[],[],[],[]⟩),(1,⟨[1,2,11],[2],[],[],[],[],[]⟩),(2,⟨[4],[],[],[],[],[],[]⟩),(3,⟨[1,2,5],[2],[],[],[],[],[]⟩),(4,⟨[1,2,5,6],[2],[],[],[],[],[]⟩),(5,⟨[1,2,5,29],[2],[],[],[],[],[]⟩),(6,⟨[4],[],[],[],[],[],[]⟩),(7,⟨[1,2,5,7,8],[2],[],[],[],[],[]⟩),(8,⟨[1,2,7,8,42],[2],[],[],[],[],[]⟩),(9,⟨[4],[],[],[],[],[],[]⟩),(10,⟨[4],[],[],[],[],[],[]⟩)],
  [],
  [(3,⟨[1,2],[2],[],[],[],[],[]⟩),(4,⟨[1,2,5],[2],[],[],[],[],[]⟩),(5,⟨[1,2,5,6],[2],[],[],[],[],[]⟩),(7,⟨[1,2,5],[2],[],[],[],[],[]⟩),(8,⟨[1,2,5,7,8],[2],[],[],[],[],[]⟩),(9,⟨[1,2,7,8,42],[2],[],[],[],[],[]⟩),(10,⟨[1,2,7,8],[2],[],[],[],[],[]⟩)],
  [],[]⟩
def f13_g0 (l_a0:Line) (gates:(Sl Gate)):St:=⟨[(1,.one (.c (.p (.sl gates.len 3 (fun i=>enc_55 (gates.get i)))))),(2,.one (.c (.ptr 2 0)))],[(2,.box 37 [.p (.int .i64 l_a0.Slope.Num),.p (.int .i64 l_a0.Slope.Den),.p (.int .i64 l_a0.Start.Num),.p (.int .i64 l_a0.Start.Den)])],[]⟩
def f13_at0 (K:List PA→Prop) (l_a0:Line) (gates:(Sl Gate)):Prop:=vc Try.prog G13 ann13 (cdF Try.f13 [1,1]) (bodyK Try.prog Try.f13 K) (f13_g0 l_a0 gates)
def f13_g1 (l_a0:Line) (gates:(Sl Gate)) (validv1:Bool):St:=⟨[(1,.one (.c (.p (.sl gates.len 3 (fun i=>enc_55 (gates.get i)))))),(2,.one (.c (.ptr 2 0))),(5,.one (.c (.p (.bool validv1))))],[(2,.box 37 [.p (.int .i64 l_a0.Slope.Num),.p (.int .i64 l_a0.Slope.Den),.p (.int .i64 l_a0.Start.Num),.p (.int .i64 l_a0.Start.Den)])],[]⟩
def f13_at1 (K:List PA→Prop) (l_a0:Line) (gates:(Sl Gate)) (validv1:Bool):Prop:=vc Try.prog G13 ann13 (cdF Try.f13 [1,1,1]) (bodyK Try.prog Try.f13 K) (f13_g1 l_a0 gates validv1)
def f13_g2 (l_a0:Line) (gates:(Sl Gate)) (validv1:Bool) (ev2:Int):St:=⟨[(1,.one (.c (.p (.sl gates.len 3 (fun i=>enc_55 (gates.get i)))))),(2,.one (.c (.ptr 2 0))),(5,.one (.c (.p (.bool validv1)))),(6,.one (.c (.p (.int .i64 ev2))))],[(2,.box 37 [.p (.int .i64 l_a0.Slope.Num),.p (.int .i64 l_a0.Slope.Den),.p (.int .i64 l_a0.Start.Num),.p (.int .i64 l_a0.Start.Den)])],[]⟩
def f13_at2 (K:List PA→Prop) (l_a0:Line) (gates:(Sl Gate)) (validv1:Bool) (ev2:Int):Prop:=vc Try.prog G13 ann13 (cdF Try.f13 [1,1,1,0,1]) (sqK Try.prog G13 ann13 (cdF Try.f13 [1,1,1,1]) (bodyK Try.prog Try.f13 K)) (f13_g2 l_a0 gates validv1 ev2)
def f13_g3 (l_a0:Line) (gates:(Sl Gate)) (validv1:Bool):St:=⟨[(1,.one (.c (.p (.sl gates.len 3 (fun i=>enc_55 (gates.get i)))))),(2,.one (.c (.ptr 2 0))),(5,.one (.c (.p (.bool validv1))))],[(2,.box 37 [.p (.int .i64 l_a0.Slope.Num),.p (.int .i64 l_a0.Slope.Den),.p (.int .i64 l_a0.Start.Num),.p (.int .i64 l_a0.Start.Den)])],[]⟩
def f13_at3 (K:List PA→Prop) (l_a0:Line) (gates:(Sl Gate)) (validv1:Bool):Prop:=vc Try.prog G13 ann13 (cdF Try.f13 [1,1,1,1]) (bodyK Try.prog Try.f13 K) (f13_g3 l_a0 gates validv1)
def f13_g4 (l_a0:Line) (gates:(Sl Gate)) (validv1:Bool) (pv4_n:Nat) (pv4_g:Nat→List PV) (ev4:Int):St:=⟨[(1,.one (.c (.p (.sl gates.len 3 (fun i=>enc_55 (gates.get i)))))),(2,.one (.c (.ptr 2 0))),(5,.one (.c (.p (.bool validv1)))),(7,.one (.c (.p (.sl pv4_n 1 pv4_g)))),(8,.one (.c (.p (.int .i64 ev4))))],[(2,.box 37 [.p (.int .i64 l_a0.Slope.Num),.p (.int .i64 l_a0.Slope.Den),.p (.int .i64 l_a0.Start.Num),.p (.int .i64 l_a0.Start.Den)])],[]⟩
def f13_at4 (K:List PA→Prop) (l_a0:Line) (gates:(Sl Gate)) (validv1:Bool) (pv4_n:Nat) (pv4_g:Nat→List PV) (ev4:Int):Prop:=vc Try.prog G13 ann13 (cdF Try.f13 [1,1,1,1,1]) (bodyK Try.prog Try.f13 K) (f13_g4 l_a0 gates validv1 pv4_n pv4_g ev4)
def f13_g5 (l_a0:Line) (gates:(Sl Gate)) (pv4:(Sl Int)) (ev4:Int) (t42v5:Bool):St:=⟨[(1,.one (.c (.p (.sl gates.len 3 (fun i=>enc_55 (gates.get i)))))),(2,.one (.c (.ptr 2 0))),(7,.one (.c (.p (.sl pv4.len 1 (fun i=>enc_3 (pv4.get i)))))),(8,.one (.c (.p (.int .i64 ev4)))),(42,.one (.c (.p (.bool t42v5))))],[(2,.box 37 [.p (.int .i64 l_a0.Slope.Num),.p (.int .i64 l_a0.Slope.Den),.p (.int .i64 l_a0.Start.Num),.p (.int .i64 l_a0.Start.Den)])],[]⟩
def f13_at5 (K:List PA→Prop) (l_a0:Line) (gates:(Sl Gate)) (pv4:(Sl Int)) (ev4:Int) (t42v5:Bool):Prop:=vc Try.prog G13 ann13 (cdF Try.f13 [1,1,1,1,1,0,1]) (sqK Try.prog G13 ann13 (cdF Try.f13 [1,1,1,1,1,1]) (bodyK Try.prog Try.f13 K)) (f13_g5 l_a0 gates pv4 ev4 t42v5)
def f13_g6 (l_a0:Line) (gates:(Sl Gate)) (pv4:(Sl Int)) (ev4:Int):St:=⟨[(1,.one (.c (.p (.sl gates.len 3 (fun i=>enc_55 (gates.get i)))))),(2,.one (.c (.ptr 2 0))),(7,.one (.c (.p (.sl pv4.len 1 (fun i=>enc_3 (pv4.get i)))))),(8,.one (.c (.p (.int .i64 ev4))))],[(2,.box 37 [.p (.int .i64 l_a0.Slope.Num),.p (.int .i64 l_a0.Slope.Den),.p (.int .i64 l_a0.Start.Num),.p (.int .i64 l_a0.Start.Den)])],[]⟩
def f13_at6 (K:List PA→Prop) (l_a0:Line) (gates:(Sl Gate)) (pv4:(Sl Int)) (ev4:Int):Prop:=vc Try.prog G13 ann13 (cdF Try.f13 [1,1,1,1,1,1]) (bodyK Try.prog Try.f13 K) (f13_g6 l_a0 gates pv4 ev4)
theorem f13_top (l_a0 : Line) (gates : (Sl Gate)) (K : List PA → Prop) :
  vcFun Try.prog G13 ann13 13 [.agg [.int .i64 l_a0.Slope.Num,.int .i64 l_a0.Slope.Den,.int .i64 l_a0.Start.Num,.int .i64 l_a0.Start.Den],.one (.sl gates.len 3 (fun i=>enc_55 (gates.get i)))] K =
  (condP (decide ((gates.len : Int) > (40:Int)))
   (K [.one (.bool true)])
   (f13_at0 K l_a0 gates)):=by kernel_rfl
theorem f13_eq0 (K : List PA → Prop) (l_a0 : Line) (gates : (Sl Gate)) :
  f13_at0 K l_a0 gates =
  ((IsE enc_55 3 3 (fun i=>enc_55 (gates.get i))∧(p20 gates=true)) ∧
  (f13_at1 K l_a0 gates (s20 gates))):=by kernel_rfl
theorem f13_eq1 (K : List PA → Prop) (l_a0 : Line) (gates : (Sl Gate)) (validv1 : Bool) :
  f13_at1 K l_a0 gates validv1 =
  ((IsE enc_55 3 3 (fun i=>enc_55 (gates.get i))∧(p51 gates=true)) ∧
  (f13_at2 K l_a0 gates validv1 (s51 gates))):=by kernel_rfl
theorem f13_eq2 (K : List PA → Prop) (l_a0 : Line) (gates : (Sl Gate)) (validv1 : Bool) (ev2 : Int) :
  f13_at2 K l_a0 gates validv1 ev2 =
  (condP validv1
   (condP (ev2 != (0:Int))
    (K [.one (.bool false)])
    (condP (!validv1)
     (condP (ev2 != (2:Int))
      (K [.one (.bool false)])
      (f13_at3 K l_a0 gates validv1))
     (f13_at3 K l_a0 gates validv1)))
   (condP (!validv1)
    (condP (ev2 != (2:Int))
     (K [.one (.bool false)])
     (f13_at3 K l_a0 gates validv1))
    (f13_at3 K l_a0 gates validv1))):=by kernel_rfl
theorem f13_eq3 (K : List PA → Prop) (l_a0 : Line) (gates : (Sl Gate)) (validv1 : Bool) :
  f13_at3 K l_a0 gates validv1 =
  ((IsE enc_55 3 3 (fun i=>enc_55 (gates.get i))∧(p52 l_a0 gates=true)) ∧
  (f13_at4 K l_a0 gates validv1 (((s52 l_a0 gates).1).len) (fun i=>enc_3 (((s52 l_a0 gates).1).get i)) ((s52 l_a0 gates).2))):=by kernel_rfl
theorem f13_eq4 (K : List PA → Prop) (l_a0 : Line) (gates : (Sl Gate)) (validv1 : Bool) (pv4 : (Sl Int)) (ev4 : Int) :
  f13_at4 K l_a0 gates validv1 pv4.len (fun i=>enc_3 (pv4.get i)) ev4 =
  (condP (!validv1)
   (f13_at5 K l_a0 gates pv4 ev4 true)
   (((p53 l_a0=true)) ∧
   (f13_at5 K l_a0 gates pv4 ev4 (!(s53 l_a0))))):=by kernel_rfl
theorem f13_eq5 (K : List PA → Prop) (l_a0 : Line) (gates : (Sl Gate)) (pv4 : (Sl Int)) (ev4 : Int) (t42v5 : Bool) :
  f13_at5 K l_a0 gates pv4 ev4 t42v5 =
  (condP t42v5
   (condP (ev4 == (2:Int))
    (condP ((pv4.len : Int) == (0:Int))
     (K [.one (.bool true)])
     (K [.one (.bool false)]))
    (K [.one (.bool false)]))
   (f13_at6 K l_a0 gates pv4 ev4)):=by kernel_rfl
theorem f13_eq6x (K : List PA → Prop) (l_a0 : Line) (gates : (Sl Gate)) (pv4 : (Sl Int)) (ev4 : Int) :
  f13_at6 K l_a0 gates pv4 ev4 =
  (condP (ev4 == (0:Int))
   ((IsE enc_55 3 3 (fun i=>enc_55 (gates.get i))∧(p27 l_a0 gates=true)) ∧
   ((IsE enc_3 1 1 (fun i=>enc_3 (pv4.get i))∧IsE enc_3 1 1 (fun i=>enc_3 ((s27 l_a0 gates).get i))∧(p39 pv4 (⟨(s27 l_a0 gates).len,(s27 l_a0 gates).get⟩:Sl Int)=true)) ∧
   (condP ((s39 pv4 (⟨(s27 l_a0 gates).len, (s27 l_a0 gates).get⟩ : Sl Int)) == (0:Int))
    (K [.one (.bool true)])
    (K [.one (.bool false)]))))
   (K [.one (.bool false)])):=by kernel_rfl
theorem sl_eta (y:Sl Int):(⟨y.len,y.get⟩:Sl Int)=y:=rfl
theorem f13_eq6 (K : List PA → Prop) (l_a0 : Line) (gates : (Sl Gate)) (pv4 : (Sl Int)) (ev4 : Int) :
  f13_at6 K l_a0 gates pv4 ev4 =
  (condP (ev4 == (0:Int))
   ((IsE enc_55 3 3 (fun i=>enc_55 (gates.get i))∧(p27 l_a0 gates=true)) ∧
   ((IsE enc_3 1 1 (fun i=>enc_3 (pv4.get i))∧IsE enc_3 1 1 (fun i=>enc_3 ((s27 l_a0 gates).get i))∧(p39 pv4 (s27 l_a0 gates)=true)) ∧
   (condP ((s39 pv4 (s27 l_a0 gates)) == (0:Int))
    (K [.one (.bool true)])
    (K [.one (.bool false)]))))
   (K [.one (.bool false)])):=by
  rw [f13_eq6x,sl_eta]
abbrev e13 (r:Bool):List PA:=[.one (.bool r)]
attribute [irreducible] f13_at0 f13_at1 f13_at2 f13_at3 f13_at4 f13_at5 f13_at6
def s13_at6 (l_a0:Line) (gates:(Sl Gate)) (pv4:(Sl Int)) (ev4:Int):Bool :=
  (cond (ev4 == (0:Int))
   (cond ((s39 pv4 (s27 l_a0 gates)) == (0:Int))
    true
    false)
   false)
def p13_at6 (l_a0:Line) (gates:(Sl Gate)) (pv4:(Sl Int)) (ev4:Int):Bool :=
  (cond (ev4 == (0:Int))
   (decide ((p27 l_a0 gates=true)) &&
   (decide ((p39 pv4 (s27 l_a0 gates)=true)) &&
   true))
   true)
theorem q13_at6 (K:List PA→Prop) (l_a0:Line) (gates:(Sl Gate)) (pv4:(Sl Int)) (ev4:Int) (hs:p13_at6 l_a0 gates pv4 ev4=true) (hk:K (e13 (s13_at6 l_a0 gates pv4 ev4))):f13_at6 K l_a0 gates pv4 ev4:=by
  refine ofEq (f13_eq6 K l_a0 gates pv4 ev4) ?_
  unfold p13_at6 at hs
  unfold s13_at6 at hk
  exact (condB_go (K := fun r => K (e13 r))
   (fun hs hk => (andK hs fun hc hs => ⟨⟨isE, hc⟩, (andK hs fun hc hs => ⟨⟨isE, isE, hc⟩, (condP_gt (K := fun r => K (e13 r))
    (fun hk=>hk)
    (fun hk=>hk) hk)⟩)⟩))
   (fun hs hk=>hk) hs hk)
def s13_at5 (l_a0:Line) (gates:(Sl Gate)) (pv4:(Sl Int)) (ev4:Int) (t42v5:Bool):Bool :=
  (cond t42v5
   (cond (ev4 == (2:Int))
    (cond ((pv4.len : Int) == (0:Int))
     true
     false)
    false)
   (s13_at6 l_a0 gates pv4 ev4))
def p13_at5 (l_a0:Line) (gates:(Sl Gate)) (pv4:(Sl Int)) (ev4:Int) (t42v5:Bool):Bool :=
  (cond t42v5
   true
   (p13_at6 l_a0 gates pv4 ev4))
theorem q13_at5 (K:List PA→Prop) (l_a0:Line) (gates:(Sl Gate)) (pv4:(Sl Int)) (ev4:Int) (t42v5:Bool) (hs:p13_at5 l_a0 gates pv4 ev4 t42v5=true) (hk:K (e13 (s13_at5 l_a0 gates pv4 ev4 t42v5))):f13_at5 K l_a0 gates pv4 ev4 t42v5:=by
  refine ofEq (f13_eq5 K l_a0 gates pv4 ev4 t42v5) ?_
  unfold p13_at5 at hs
  unfold s13_at5 at hk
  exact (condB_go (K := fun r => K (e13 r))
   (fun hs hk => (condP_gt (K := fun r => K (e13 r))
    (fun hk => (condP_gt (K := fun r => K (e13 r))
     (fun hk=>hk)
     (fun hk=>hk) hk))
    (fun hk=>hk) hk))
   (fun hs hk=>(q13_at6 K l_a0 gates pv4 ev4 hs hk)) hs hk)
def s13_at4 (l_a0:Line) (gates:(Sl Gate)) (validv1:Bool) (pv4:(Sl Int)) (ev4:Int):Bool :=
  (cond (!validv1)
   (s13_at5 l_a0 gates pv4 ev4 true)
   (s13_at5 l_a0 gates pv4 ev4 (!(s53 l_a0))))
def p13_at4 (l_a0:Line) (gates:(Sl Gate)) (validv1:Bool) (pv4:(Sl Int)) (ev4:Int):Bool :=
  (cond (!validv1)
   (p13_at5 l_a0 gates pv4 ev4 true)
   (decide ((p53 l_a0=true)) &&
   (p13_at5 l_a0 gates pv4 ev4 (!(s53 l_a0)))))
theorem q13_at4 (K:List PA→Prop) (l_a0:Line) (gates:(Sl Gate)) (validv1:Bool) (pv4:(Sl Int)) (ev4:Int) (pv4_g:Nat→List PV) (pv4_h:pv4_g=fun i=>enc_3 (pv4.get i)) (hs:p13_at4 l_a0 gates validv1 pv4 ev4=true) (hk:K (e13 (s13_at4 l_a0 gates validv1 pv4 ev4))):f13_at4 K l_a0 gates validv1 pv4.len pv4_g ev4:=by
  subst pv4_h
  refine ofEq (f13_eq4 K l_a0 gates validv1 pv4 ev4) ?_
  unfold p13_at4 at hs
  unfold s13_at4 at hk
  exact (condB_go (K := fun r => K (e13 r))
   (fun hs hk=>(q13_at5 K l_a0 gates pv4 ev4 true hs hk))
   (fun hs hk=>(andK hs fun hc hs=>⟨hc,(q13_at5 K l_a0 gates pv4 ev4 (!(s53 l_a0)) hs hk)⟩)) hs hk)
def s13_at3 (l_a0:Line) (gates:(Sl Gate)) (validv1:Bool):Bool :=
  (s13_at4 l_a0 gates validv1 ((s52 l_a0 gates).1) ((s52 l_a0 gates).2))
def p13_at3 (l_a0:Line) (gates:(Sl Gate)) (validv1:Bool):Bool :=
  (decide ((p52 l_a0 gates=true)) &&
  (p13_at4 l_a0 gates validv1 ((s52 l_a0 gates).1) ((s52 l_a0 gates).2)))
theorem q13_at3 (K:List PA→Prop) (l_a0:Line) (gates:(Sl Gate)) (validv1:Bool) (hs:p13_at3 l_a0 gates validv1=true) (hk:K (e13 (s13_at3 l_a0 gates validv1))):f13_at3 K l_a0 gates validv1:=by
  refine ofEq (f13_eq3 K l_a0 gates validv1) ?_
  unfold p13_at3 at hs
  unfold s13_at3 at hk
  exact (andK hs fun hc hs=>⟨⟨isE,hc⟩,(q13_at4 K l_a0 gates validv1 ((s52 l_a0 gates).1) ((s52 l_a0 gates).2) (fun i=>enc_3 (((s52 l_a0 gates).1).get i)) rfl hs hk)⟩)
def s13_at2 (l_a0:Line) (gates:(Sl Gate)) (validv1:Bool) (ev2:Int):Bool :=
  (cond validv1
   (cond (ev2 != (0:Int))
    false
    (cond (!validv1)
     (cond (ev2 != (2:Int))
      false
      (s13_at3 l_a0 gates validv1))
     (s13_at3 l_a0 gates validv1)))
   (cond (!validv1)
    (cond (ev2 != (2:Int))
     false
     (s13_at3 l_a0 gates validv1))
    (s13_at3 l_a0 gates validv1)))
def p13_at2 (l_a0:Line) (gates:(Sl Gate)) (validv1:Bool) (ev2:Int):Bool :=
  (cond validv1
   (cond (ev2 != (0:Int))
    true
    (cond (!validv1)
     (cond (ev2 != (2:Int))
      true
      (p13_at3 l_a0 gates validv1))
     (p13_at3 l_a0 gates validv1)))
   (cond (!validv1)
    (cond (ev2 != (2:Int))
     true
     (p13_at3 l_a0 gates validv1))
    (p13_at3 l_a0 gates validv1)))
theorem q13_at2 (K:List PA→Prop) (l_a0:Line) (gates:(Sl Gate)) (validv1:Bool) (ev2:Int) (hs:p13_at2 l_a0 gates validv1 ev2=true) (hk:K (e13 (s13_at2 l_a0 gates validv1 ev2))):f13_at2 K l_a0 gates validv1 ev2:=by
  refine ofEq (f13_eq2 K l_a0 gates validv1 ev2) ?_
  unfold p13_at2 at hs
  unfold s13_at2 at hk
  exact (condB_go (K := fun r => K (e13 r))
   (fun hs hk => (condB_go (K := fun r => K (e13 r))
    (fun hs hk=>hk)
    (fun hs hk => (condB_go (K := fun r => K (e13 r))
     (fun hs hk => (condB_go (K := fun r => K (e13 r))
      (fun hs hk=>hk)
      (fun hs hk=>(q13_at3 K l_a0 gates validv1 hs hk)) hs hk))
     (fun hs hk=>(q13_at3 K l_a0 gates validv1 hs hk)) hs hk)) hs hk))
   (fun hs hk => (condB_go (K := fun r => K (e13 r))
    (fun hs hk => (condB_go (K := fun r => K (e13 r))
     (fun hs hk=>hk)
     (fun hs hk=>(q13_at3 K l_a0 gates validv1 hs hk)) hs hk))
    (fun hs hk=>(q13_at3 K l_a0 gates validv1 hs hk)) hs hk)) hs hk)
def s13_at1 (l_a0:Line) (gates:(Sl Gate)) (validv1:Bool):Bool :=
  (s13_at2 l_a0 gates validv1 (s51 gates))
def p13_at1 (l_a0:Line) (gates:(Sl Gate)) (validv1:Bool):Bool :=
  (decide ((p51 gates=true)) &&
  (p13_at2 l_a0 gates validv1 (s51 gates)))
theorem q13_at1 (K:List PA→Prop) (l_a0:Line) (gates:(Sl Gate)) (validv1:Bool) (hs:p13_at1 l_a0 gates validv1=true) (hk:K (e13 (s13_at1 l_a0 gates validv1))):f13_at1 K l_a0 gates validv1:=by
  refine ofEq (f13_eq1 K l_a0 gates validv1) ?_
  unfold p13_at1 at hs
  unfold s13_at1 at hk
  exact (andK hs fun hc hs=>⟨⟨isE,hc⟩,(q13_at2 K l_a0 gates validv1 (s51 gates) hs hk)⟩)
def s13_at0 (l_a0:Line) (gates:(Sl Gate)):Bool :=
  (s13_at1 l_a0 gates (s20 gates))
def p13_at0 (l_a0:Line) (gates:(Sl Gate)):Bool :=
  (decide ((p20 gates=true)) &&
  (p13_at1 l_a0 gates (s20 gates)))
theorem q13_at0 (K:List PA→Prop) (l_a0:Line) (gates:(Sl Gate)) (hs:p13_at0 l_a0 gates=true) (hk:K (e13 (s13_at0 l_a0 gates))):f13_at0 K l_a0 gates:=by
  refine ofEq (f13_eq0 K l_a0 gates) ?_
  unfold p13_at0 at hs
  unfold s13_at0 at hk
  exact (andK hs fun hc hs=>⟨⟨isE,hc⟩,(q13_at1 K l_a0 gates (s20 gates) hs hk)⟩)
def s13 (l_a0:Line) (gates:(Sl Gate)):Bool :=
  (cond (decide ((gates.len : Int) > (40:Int)))
   true
   (s13_at0 l_a0 gates))
def p13 (l_a0:Line) (gates:(Sl Gate)):Bool :=
  (cond (decide ((gates.len : Int) > (40:Int)))
   true
   (p13_at0 l_a0 gates))
theorem q13 (l_a0:Line) (gates:(Sl Gate)) (K:List PA→Prop) (hs:p13 l_a0 gates=true) (hk:K (e13 (s13 l_a0 gates))):vcFun Try.prog G13 ann13 13 [.agg [.int .i64 l_a0.Slope.Num,.int .i64 l_a0.Slope.Den,.int .i64 l_a0.Start.Num,.int .i64 l_a0.Start.Den],.one (.sl gates.len 3 (fun i=>enc_55 (gates.get i)))] K:=by
  refine ofEq (f13_top l_a0 gates K) ?_
  unfold p13 at hs
  unfold s13 at hk
  exact (condB_go (K := fun r => K (e13 r))
   (fun hs hk=>hk)
   (fun hs hk=>(q13_at0 K l_a0 gates hs hk)) hs hk)
def ctr13 : List PA → COut
  | [.agg [.int .i64 a0_Slope_Num,.int .i64 a0_Slope_Den,.int .i64 a0_Start_Num,.int .i64 a0_Start_Den],.one (.sl a1_n a1_s a1_g)]=>.det (IsE enc_55 3 a1_s a1_g∧p13 (⟨(⟨a0_Slope_Num,a0_Slope_Den⟩:Frac),(⟨a0_Start_Num,a0_Start_Den⟩:Frac)⟩:Line) (⟨a1_n,decF_55 a1_g⟩:(Sl Gate))=true) [.one (.bool (s13 (⟨(⟨a0_Slope_Num,a0_Slope_Den⟩:Frac),(⟨a0_Start_Num,a0_Start_Den⟩:Frac)⟩:Line) (⟨a1_n,decF_55 a1_g⟩:(Sl Gate))))]
  | _=>.no
theorem call13:Callable Try.prog 13:=⟨_,rfl,rfl,by kernel_rfl⟩
theorem ok13:Ok Try.prog 13 ctr13:=ok_tab okT13 call13 fun args K h=>by
  unfold ctr13 at h
  split at h
  · rename_i a0_Slope_Num a0_Slope_Den a0_Start_Num a0_Start_Den a1_n a1_s a1_g
    obtain ⟨⟨⟨rfl,a1_f,rfl⟩,hs⟩,hk⟩:=h
    try rw [decF_enc_55 a1_f] at hs
    try rw [decF_enc_55 a1_f] at hk
    exact ⟨(fun _ _=>[]),(fun _=>false),ann13,q13 (⟨(⟨a0_Slope_Num,a0_Slope_Den⟩:Frac),(⟨a0_Start_Num,a0_Start_Den⟩:Frac)⟩:Line) (⟨a1_n,a1_f⟩:(Sl Gate)) K hs hk⟩
  · exact h.elim
end Go.Proofs
namespace Go.Proofs
open Go Go.Pm
set_option maxRecDepth 100000
set_option linter.unusedVariables false
attribute [local irreducible] Go.Pm.vcFun Go.Pm.vc Go.Pm.vcIter
theorem C_3:Try.prog.cellsOf 3=1:=by kernel_rfl
theorem C_25:Try.prog.cellsOf 25=2:=by kernel_rfl
theorem C_37:Try.prog.cellsOf 37=4:=by kernel_rfl
theorem C_55:Try.prog.cellsOf 55=3:=by kernel_rfl
abbrev wf_3 (x:Int):Prop:=wfI x
theorem rd_3 {H:Type} {en:TypeId×Value→H} {w:World} {sp:Nat→Bool} {held:Bool} : Rd H en Try.prog w sp held 3 enc_3 wf_3:=rd_int Try.underlying3
def wf_55 (x:Gate):Prop:=wf_3 x.Z∧wf_3 x.Low∧wf_3 x.High
theorem rd_55 {H:Type} {en:TypeId×Value→H} {w:World} {sp:Nat→Bool} {held:Bool} : Rd H en Try.prog w sp held 55 enc_55 wf_55:=by
  intro fuel cs x h
  obtain ⟨hl,hf⟩:=rd_struct Try.underlying55 h
  rw [C_55] at hl
  obtain ⟨n0,y0,g0⟩:=hf 0 _ rfl
  have g0:DataW.trod en Try.prog w 0 sp held n0 3 ((cs.drop 0).take (Try.prog.cellsOf 3))=some y0:=g0
  rw [C_3] at g0
  obtain ⟨a0,r0,w0⟩:=rd_3 _ _ _ g0
  obtain ⟨n1,y1,g1⟩:=hf 1 _ rfl
  have g1:DataW.trod en Try.prog w 0 sp held n1 3 ((cs.drop 1).take (Try.prog.cellsOf 3))=some y1:=g1
  rw [C_3] at g1
  obtain ⟨a1,r1,w1⟩:=rd_3 _ _ _ g1
  obtain ⟨n2,y2,g2⟩:=hf 2 _ rfl
  have g2:DataW.trod en Try.prog w 0 sp held n2 3 ((cs.drop 2).take (Try.prog.cellsOf 3))=some y2:=g2
  rw [C_3] at g2
  obtain ⟨a2,r2,w2⟩:=rd_3 _ _ _ g2
  have z:cs.drop 3=[]:=List.drop_eq_nil_of_le (by omega)
  have R:=(r0.append (r1.append (r2.append (show RL (Rep (H0 w)) [] (cs.drop 3) by rw [z];exact rl_n))))
  rw [← (show cs.drop 2=(cs.drop 2).take 1 ++ cs.drop 3 from split_drop cs 2 1)] at R
  rw [← (show cs.drop 1=(cs.drop 1).take 1 ++ cs.drop 2 from split_drop cs 1 1)] at R
  rw [← (show cs.drop 0=(cs.drop 0).take 1 ++ cs.drop 1 from split_drop cs 0 1)] at R
  exact ⟨⟨a0,a1,a2⟩,R,⟨w0,w1,w2⟩⟩
def wf_22 (x:(Sl Gate)):Prop:=x.len≤9223372036854775807∧∀ i,i < x.len→wf_55 (x.get i)
theorem rd_22 {H:Type} {en:TypeId×Value→H} {w:World} {sp:Nat→Bool} {held:Bool} : Rd H en Try.prog w sp held 22 enc_22 wf_22:=rd_slice Try.underlying22 C_55 (by decide) (fun _=>rfl) rd_55
def wf_25 (x:Frac):Prop:=wf_3 x.Num∧wf_3 x.Den
theorem rd_25 {H:Type} {en:TypeId×Value→H} {w:World} {sp:Nat→Bool} {held:Bool} : Rd H en Try.prog w sp held 25 enc_25 wf_25:=by
  intro fuel cs x h
  obtain ⟨hl,hf⟩:=rd_struct Try.underlying25 h
  rw [C_25] at hl
  obtain ⟨n0,y0,g0⟩:=hf 0 _ rfl
  have g0:DataW.trod en Try.prog w 0 sp held n0 3 ((cs.drop 0).take (Try.prog.cellsOf 3))=some y0:=g0
  rw [C_3] at g0
  obtain ⟨a0,r0,w0⟩:=rd_3 _ _ _ g0
  obtain ⟨n1,y1,g1⟩:=hf 1 _ rfl
  have g1:DataW.trod en Try.prog w 0 sp held n1 3 ((cs.drop 1).take (Try.prog.cellsOf 3))=some y1:=g1
  rw [C_3] at g1
  obtain ⟨a1,r1,w1⟩:=rd_3 _ _ _ g1
  have z:cs.drop 2=[]:=List.drop_eq_nil_of_le (by omega)
  have R:=(r0.append (r1.append (show RL (Rep (H0 w)) [] (cs.drop 2) by rw [z];exact rl_n)))
  rw [← (show cs.drop 1=(cs.drop 1).take 1 ++ cs.drop 2 from split_drop cs 1 1)] at R
  rw [← (show cs.drop 0=(cs.drop 0).take 1 ++ cs.drop 1 from split_drop cs 0 1)] at R
  exact ⟨⟨a0,a1⟩,R,⟨w0,w1⟩⟩
def wf_37 (x:Line):Prop:=wf_25 x.Slope∧wf_25 x.Start
theorem rd_37 {H:Type} {en:TypeId×Value→H} {w:World} {sp:Nat→Bool} {held:Bool} : Rd H en Try.prog w sp held 37 enc_37 wf_37:=by
  intro fuel cs x h
  obtain ⟨hl,hf⟩:=rd_struct Try.underlying37 h
  rw [C_37] at hl
  obtain ⟨n0,y0,g0⟩:=hf 0 _ rfl
  have g0:DataW.trod en Try.prog w 0 sp held n0 25 ((cs.drop 0).take (Try.prog.cellsOf 25))=some y0:=g0
  rw [C_25] at g0
  obtain ⟨a0,r0,w0⟩:=rd_25 _ _ _ g0
  obtain ⟨n1,y1,g1⟩:=hf 1 _ rfl
  have g1:DataW.trod en Try.prog w 0 sp held n1 25 ((cs.drop 2).take (Try.prog.cellsOf 25))=some y1:=g1
  rw [C_25] at g1
  obtain ⟨a1,r1,w1⟩:=rd_25 _ _ _ g1
  have z:cs.drop 4=[]:=List.drop_eq_nil_of_le (by omega)
  have R:=(r0.append (r1.append (show RL (Rep (H0 w)) [] (cs.drop 4) by rw [z];exact rl_n)))
  rw [← (show cs.drop 2=(cs.drop 2).take 2 ++ cs.drop 4 from split_drop cs 2 2)] at R
  rw [← (show cs.drop 0=(cs.drop 0).take 2 ++ cs.drop 2 from split_drop cs 0 2)] at R
  exact ⟨⟨a0,a1⟩,R,⟨w0,w1⟩⟩
end Go.Proofs
namespace Go.Pm
open Go
theorem w64_succ {i n:Nat} (h:i < n) (hn:n≤9223372036854775807):w64 ((i:Int)+(1:Int))=((i+1:Nat):Int):=by
  rw [w64_id (by omega) (by omega)];omega
theorem ex_loop {β : Type} {good : Nat → Bool} {bad fin : β} {finP : Bool} {n : Nat} {lpS : Nat → Int → β} {lpP : Nat → Int → Bool}
    (hS:∀ (k i:Nat),i < n→lpS (k+1) (i:Int)=cond (good i) (lpS k (w64 ((i:Int)+(1:Int)))) bad)
    (hE:∀ k,lpS (k+1) (n:Int)=fin)
    (hP:∀ (k i:Nat),i < n→lpP (k+1) (i:Int)=cond (good i) (lpP k (w64 ((i:Int)+(1:Int)))) true)
    (hPE:∀ k,lpP (k+1) (n:Int)=finP) (hn:n≤9223372036854775807) :
    ((∀ i,i < n→good i=true)→lpP Fuel 0=finP∧lpS Fuel 0=fin)∧((¬ ∀ i,i < n→good i=true)→lpP Fuel 0=true∧lpS Fuel 0=bad):=by
  have key:∀ (m k i:Nat),i+m=n→m < k→((∀ j,i≤j→j < n→good j=true)→lpP k (i:Int)=finP∧lpS k (i:Int)=fin)∧((¬ ∀ j,i≤j→j < n→good j=true)→lpP k (i:Int)=true∧lpS k (i:Int)=bad):=by
    intro m
    induction m with
    | zero =>
      intro k i hi hk
      obtain ⟨k,rfl⟩:∃ k',k=k'+1:=⟨k - 1,by omega⟩
      have:i=n:=by omega
      subst this
      rw [hE,hPE]
      exact ⟨fun _=>⟨rfl,rfl⟩,fun h=>absurd (fun j h1 h2=>absurd h2 (by omega)) h⟩
    | succ m ih =>
      intro k i hi hk
      obtain ⟨k,rfl⟩:∃ k',k=k'+1:=⟨k - 1,by omega⟩
      rw [hS k i (by omega),hP k i (by omega),w64_succ (n:=n) (by omega) hn]
      obtain ⟨h1,h2⟩:=ih k (i+1) (by omega) (by omega)
      cases hg:good i
      · refine ⟨fun h => ?_, fun _ => ⟨rfl, rfl⟩⟩
        have:=h i (Nat.le_refl _) (by omega)
        rw [hg] at this;cases this
      · refine ⟨fun h => h1 fun j a b => h j (by omega) b, fun h => h2 fun h' => h fun j a b => ?_⟩
        by_cases hji:j=i
        · rw [hji];exact hg
        · exact h' j (by omega) b
  have:=key n Fuel 0 (by omega) (by simp only [Fuel];omega)
  simpa using this
def foldF {σ : Type} (step : Nat → σ → σ) : Nat → Nat → σ → σ
  | 0,_,s=>s
  | m+1,i,s=>foldF step m (i+1) (step i s)
theorem fold_loop {σ β : Type} {step : Nat → σ → σ} {E : σ → β} {EP : σ → Bool} {Inv : Nat → σ → Prop} {a n : Nat} {lpS : Nat → σ → Int → β} {lpP : Nat → σ → Int → Bool}
    (hS:∀ (k i:Nat) (s:σ),a≤i→i < n→Inv i s→lpS (k+1) s (i:Int)=lpS k (step i s) (w64 ((i:Int)+(1:Int))))
    (hE:∀ k s,lpS (k+1) s (n:Int)=E s)
    (hP:∀ (k i:Nat) (s:σ),a≤i→i < n→Inv i s→lpP (k+1) s (i:Int)=lpP k (step i s) (w64 ((i:Int)+(1:Int))))
    (hPE:∀ k s,lpP (k+1) s (n:Int)=EP s)
    (hI:∀ i s,a≤i→i < n→Inv i s→Inv (i+1) (step i s)) (ha:a≤n) (hn:n≤9223372036854775807) (s:σ) (h0:Inv a s) :
    lpP Fuel s (a:Int)=EP (foldF step (n - a) a s)∧lpS Fuel s (a:Int)=E (foldF step (n - a) a s):=by
  have key:∀ (m k i:Nat) (s:σ),a≤i→i+m=n→m < k→Inv i s→lpP k s (i:Int)=EP (foldF step m i s)∧lpS k s (i:Int)=E (foldF step m i s):=by
    intro m
    induction m with
    | zero =>
      intro k i s h1 hi hk _
      obtain ⟨k,rfl⟩:∃ k',k=k'+1:=⟨k - 1,by omega⟩
      have:i=n:=by omega
      subst this
      rw [hE,hPE]
      exact ⟨rfl,rfl⟩
    | succ m ih =>
      intro k i s h1 hi hk hs
      obtain ⟨k,rfl⟩:∃ k',k=k'+1:=⟨k - 1,by omega⟩
      rw [hS k i s h1 (by omega) hs,hP k i s h1 (by omega) hs,w64_succ (n:=n) (by omega) hn]
      exact ih k (i+1) (step i s) (by omega) (by omega) (by omega) (hI i s h1 (by omega) hs)
  exact key (n - a) Fuel a s (Nat.le_refl _) (by omega) (by simp only [Fuel];omega) h0
end Go.Pm
namespace Go.Proofs
open Go Go.Pm
set_option maxRecDepth 100000
theorem s70_eq (n a b:Int):s70 n a b=decide (a≤n∧n≤b):=by
  unfold s70;by_cases h:n ≥ a
  · rw [decide_eq_true h,cond_true];exact decide_eq_decide.2 ⟨fun k=>⟨h,k⟩,fun k=>k.2⟩
  · rw [decide_eq_false h,cond_false];exact (decide_eq_false fun k=>h k.1).symm
theorem s74_eq (n a b:Int):s74 n a b=decide (a≤n∧n≤b):=s70_eq n a b
def GateOK (g:Gate):Prop:=(0≤g.Z∧g.Z≤100000)∧-1000000≤g.Low∧g.Low≤g.High∧g.High≤1000000
def GatesOK (l:Sl Gate):Prop:=(∀ i,i < l.len→GateOK (l.get i))∧1≤l.len∧l.len≤24
theorem cond_and (a b:Bool):cond a b false=(a && b):=by cases a <;> rfl
theorem s87_ok (g:Gate):s87 g=true↔GateOK g:=by
  unfold s87 GateOK
  rw [s74_eq,cond_and,cond_and,cond_and,Bool.and_eq_true,Bool.and_eq_true,Bool.and_eq_true,decide_eq_true_eq,decide_eq_true_eq,decide_eq_true_eq,decide_eq_true_eq]
theorem s49_ok (g:Gate):s49 g=true↔GateOK g:=by
  unfold s49 GateOK
  rw [s70_eq,s70_eq,cond_and,cond_and,Bool.and_eq_true,Bool.and_eq_true,decide_eq_true_eq,decide_eq_true_eq,decide_eq_true_eq]
  omega
theorem s64_ok (l:Sl Gate) (hn:l.len≤9223372036854775807):p64 l=true∧(s64 l=true↔GatesOK l):=by
  have := all_loop (good := fun i => s87 (l.get i)) (fin := s74 (l.len : Int) 1 24) (n := l.len) (lpS := s64_lp0 l) (lpP := p64_lp0 l)
    (fun k i hi=>by
      show s64_st0 l (s64_lp0 l k) (i:Int)=_
      generalize s64_lp0 l k=S
      unfold s64_st0 s64_at1
      rw [decide_eq_true (show (i:Int) < (l.len:Int) by omega),cond_true,Int.toNat_natCast]
      cases s87 (l.get i) <;> rfl)
    (fun k=>by
      show s64_st0 l (s64_lp0 l k) (l.len:Int)=_
      unfold s64_st0
      rw [decide_eq_false (show ¬ (l.len:Int) < (l.len:Int) by omega),cond_false])
    (fun k i hi=>by
      show p64_st0 l (p64_lp0 l k) (i:Int)=_
      generalize p64_lp0 l k=S
      unfold p64_st0 p64_at1
      rw [decide_eq_true (show (i:Int) < (l.len:Int) by omega),cond_true,Int.toNat_natCast,decide_eq_true (show 0≤(i:Int)∧(i:Int) < (l.len:Int) by omega),Bool.true_and]
      cases s87 (l.get i) <;> rfl)
    (fun k=>by
      show p64_st0 l (p64_lp0 l k) (l.len:Int)=_
      unfold p64_st0
      rw [decide_eq_false (show ¬ (l.len:Int) < (l.len:Int) by omega),cond_false])
    hn
  refine ⟨this.1,this.2.trans ?_⟩
  rw [s74_eq,decide_eq_true_eq]
  exact ⟨fun k=>⟨fun i hi=>(s87_ok _).1 (k.1 i hi),by omega,by omega⟩,fun k=>⟨fun i hi=>(s87_ok _).2 (k.1 i hi),by have:=k.2;omega⟩⟩
theorem s20_ok (l:Sl Gate) (hn:l.len≤9223372036854775807):p20 l=true∧(s20 l=true↔GatesOK l):=by
  have := all_loop (good := fun i => s49 (l.get i)) (fin := s70 (l.len : Int) 1 24) (n := l.len) (lpS := s20_lp0 l) (lpP := p20_lp0 l)
    (fun k i hi=>by
      show s20_st0 l (s20_lp0 l k) (i:Int)=_
      generalize s20_lp0 l k=S
      unfold s20_st0 s20_at1
      rw [decide_eq_true (show (i:Int) < (l.len:Int) by omega),cond_true,Int.toNat_natCast]
      cases s49 (l.get i) <;> rfl)
    (fun k=>by
      show s20_st0 l (s20_lp0 l k) (l.len:Int)=_
      unfold s20_st0
      rw [decide_eq_false (show ¬ (l.len:Int) < (l.len:Int) by omega),cond_false])
    (fun k i hi=>by
      show p20_st0 l (p20_lp0 l k) (i:Int)=_
      generalize p20_lp0 l k=S
      unfold p20_st0 p20_at1
      rw [decide_eq_true (show (i:Int) < (l.len:Int) by omega),cond_true,Int.toNat_natCast,decide_eq_true (show 0≤(i:Int)∧(i:Int) < (l.len:Int) by omega),Bool.true_and]
      cases s49 (l.get i) <;> rfl)
    (fun k=>by
      show p20_st0 l (p20_lp0 l k) (l.len:Int)=_
      unfold p20_st0
      rw [decide_eq_false (show ¬ (l.len:Int) < (l.len:Int) by omega),cond_false])
    hn
  refine ⟨this.1,this.2.trans ?_⟩
  rw [s70_eq,decide_eq_true_eq]
  exact ⟨fun k=>⟨fun i hi=>(s49_ok _).1 (k.1 i hi),by omega,by omega⟩,fun k=>⟨fun i hi=>(s49_ok _).2 (k.1 i hi),by have:=k.2;omega⟩⟩
theorem s64_eq (l:Sl Gate) (hn:l.len≤9223372036854775807):s64 l=s20 l :=
  Bool.eq_iff_iff.2 ((s64_ok l hn).2.trans (s20_ok l hn).2.symm)
-- the greatest common divisor
theorem gcd_key:∀ (k:Nat) (a b:Int),0≤a→0≤b→b < (k:Int) →
    (p114_lp0 k a b=true∧s114_lp0 k a b=(Int.gcd a b:Int))∧(p73_lp0 k a b=true∧s73_lp0 k a b=(Int.gcd a b:Int)):=by
  intro k
  induction k with
  | zero=>intro a b _ h1 h2;omega
  | succ k ih =>
    intro a b ha hb hk
    show (p114_st0 (p114_lp0 k) a b=true∧s114_st0 (s114_lp0 k) a b=_)∧(p73_st0 (p73_lp0 k) a b=true∧s73_st0 (s73_lp0 k) a b=_)
    unfold p114_st0 s114_st0 p73_st0 s73_st0
    by_cases h0:b=0
    · subst h0
      simp [Int.natAbs_of_nonneg ha]
    · have hb0 : b > 0 := by omega
      have e1:(b != (0:Int))=true:=by simpa using h0
      have m0:0≤a.tmod b:=Int.tmod_nonneg b ha
      have m1:a.tmod b < b:=Int.tmod_lt_of_pos a hb0
      have g:Int.gcd b (a.tmod b)=Int.gcd a b:=by
        obtain ⟨m,rfl⟩:=Int.eq_ofNat_of_zero_le ha
        obtain ⟨n,rfl⟩:=Int.eq_ofNat_of_zero_le hb
        show Nat.gcd n (m % n)=Nat.gcd m n
        rw [Nat.gcd_comm m n,Nat.gcd_rec n m,Nat.gcd_comm]
      obtain ⟨⟨i1,i2⟩,i3,i4⟩:=ih b (a.tmod b) hb m0 (by omega)
      rw [decide_eq_true hb0,e1,decide_eq_true (show b ≠ 0 from h0),cond_true,cond_true,cond_true,cond_true,Bool.true_and,Bool.true_and,i1,i2,i3,i4,g]
      exact ⟨⟨rfl,rfl⟩,rfl,rfl⟩
theorem s114_ok (a b:Int) (ha:0≤a) (hb:0≤b) (hk:b≤9223372036854775807):p114 a b=true∧s114 a b=(Int.gcd a b:Int) :=
  (gcd_key Fuel a b ha hb (by simp only [Fuel];omega)).1
theorem s73_ok (a b:Int) (ha:0≤a) (hb:0≤b) (hk:b≤9223372036854775807):p73 a b=true∧s73 a b=(Int.gcd a b:Int) :=
  (gcd_key Fuel a b ha hb (by simp only [Fuel];omega)).2
-- the order of equal lists
def SEq {α:Type} (a b:Sl α):Prop:=a.len=b.len∧∀ i,i < a.len→a.get i=b.get i
theorem s39_same (a b:Sl Int) (h:SEq a b) (hn:a.len≤9223372036854775807):p39 a b=true∧s39 a b=0:=by
  obtain ⟨h1,h2⟩:=h
  have e := ex_loop (good := fun _ => true) (bad := (0:Int)) (fin := 0) (finP := true) (n := a.len) (lpS := s39_lp0 a b) (lpP := p39_lp0 a b)
    (fun k i hi=>by
      show s39_st0 a b (s39_lp0 a b k) (i:Int)=_
      generalize s39_lp0 a b k=S
      unfold s39_st0
      rw [← h1,decide_eq_true (show (i:Int) < (a.len:Int) by omega),cond_true,cond_true,Int.toNat_natCast,h2 i hi,decide_eq_false (show ¬ b.get i < b.get i by omega)]
      rfl)
    (fun k=>by
      show s39_st0 a b (s39_lp0 a b k) (a.len:Int)=_
      unfold s39_st0 s39_at1
      rw [← h1,decide_eq_false (show ¬ (a.len:Int) < (a.len:Int) by omega)]
      rfl)
    (fun k i hi=>by
      show p39_st0 a b (p39_lp0 a b k) (i:Int)=_
      generalize p39_lp0 a b k=S
      unfold p39_st0
      rw [← h1,decide_eq_true (show (i:Int) < (a.len:Int) by omega),decide_eq_true (show 0≤(i:Int)∧(i:Int) < (a.len:Int) by omega),cond_true,cond_true,Int.toNat_natCast,h2 i hi,decide_eq_false (show ¬ b.get i < b.get i by omega)]
      rfl)
    (fun k=>by
      show p39_st0 a b (p39_lp0 a b k) (a.len:Int)=_
      unfold p39_st0
      rw [decide_eq_false (show ¬ (a.len:Int) < (a.len:Int) by omega)]
      rfl)
    hn
  exact e.1 fun _ _=>rfl
end Go.Proofs
namespace Go.Proofs
open Go Go.Pm
set_option maxRecDepth 100000
theorem foldF_inv {σ : Type} {step : Nat → σ → σ} {Inv : Nat → σ → Prop} {n : Nat} (hI : ∀ i s, i < n → Inv i s → Inv (i + 1) (step i s)) :
    ∀ (m i:Nat) (s:σ),i+m=n→Inv i s→Inv n (foldF step m i s):=by
  intro m
  induction m with
  | zero => intro i s h hs; have : i = n := by omega
            subst this;exact hs
  | succ m ih=>intro i s h hs;exact ih (i+1) (step i s) (by omega) (hI i s (by omega) hs)
theorem neg_w {m:Int} (h0:0≤m) (h1:m≤4611686018427387904):w64 (0 - m) = -m:=by rw [w64_id (by omega) (by omega)];omega
theorem low_ok (f:Frac) (m:Int) (h0:0≤m) (h1:m≤4611686018427387904):p90 f (100000:Int) m=true∧p91 f m=true∧s90 f (100000:Int) m=s91 f m:=by
  unfold p90 p91 s90 s91
  rw [s74_eq,s74_eq,s70_eq,s70_eq,neg_w h0 h1]
  by_cases a1:1≤f.Den∧f.Den≤100000
  · by_cases a2 : -m ≤ f.Num ∧ f.Num ≤ m
    · rw [decide_eq_true a1, decide_eq_true a2]
      have hw:w64 (0 - f.Num) = -f.Num:=by rw [w64_id (by omega) (by omega)];omega
      rw [hw]
      have ha:0≤(if -f.Num > f.Num then -f.Num else f.Num):=by split <;> omega
      generalize (if -f.Num > f.Num then -f.Num else f.Num)=a at ha ⊢
      obtain ⟨g1,g2⟩:=s114_ok a f.Den ha (by omega) (by omega)
      obtain ⟨g3,g4⟩:=s73_ok a f.Den ha (by omega) (by omega)
      simp only [g1,g2,g3,g4,cond_true,decide_true,Bool.and_true,and_self]
    · simp only [decide_eq_true a1,decide_eq_false a2,cond_true,cond_false,and_self]
  · simp only [decide_eq_false a1,cond_true,cond_false,and_self]
theorem s53_ok (l:Line):p53 l=true∧s53 l=(s91 l.Slope 2000000 && s91 l.Start 1000000000000):=by
  unfold p53 s53
  rw [(low_ok l.Slope 2000000 (by omega) (by omega)).2.1,(low_ok l.Start 1000000000000 (by omega) (by omega)).2.1]
  cases s91 l.Slope 2000000 <;> cases s91 l.Start 1000000000000 <;> exact ⟨rfl,rfl⟩
theorem pass_eq (l:Line) (g:Gate):s74 (w64 ((w64 (l.Start.Num * l.Slope.Den))+(w64 ((w64 (l.Slope.Num * g.Z)) * l.Start.Den)))) (w64 (g.Low * (w64 (l.Slope.Den * l.Start.Den)))) (w64 (g.High * (w64 (l.Slope.Den * l.Start.Den))))=s72 l g:=by
  unfold s72 s104
  rw [s74_eq,Int.mul_comm l.Start.Den l.Slope.Den,cond_and]
  exact (Bool.decide_and _ _).trans rfl
def addI (l:Line) (gates:Sl Gate) (i:Nat) (v:Sl Int):Sl Int:=cond (s72 l (gates.get i)) (⟨v.len+1,appT v.len v.get (fun _=>(i:Int))⟩:Sl Int) v
def allP (l:Line) (gates:Sl Gate):Sl Int:=foldF (addI l gates) gates.len 0 (⟨0,fun _=>default⟩:Sl Int)
theorem addI_len (l:Line) (gates:Sl Gate) (i:Nat) (v:Sl Int) (h:v.len≤i):(addI l gates i v).len≤i+1:=by
  unfold addI;cases s72 l (gates.get i)
  · exact Nat.le_succ_of_le h
  · exact Nat.succ_le_succ h
theorem allP_len (l:Line) (gates:Sl Gate):(allP l gates).len≤gates.len :=
  foldF_inv (Inv:=fun i v=>v.len≤i) (n:=gates.len) (fun i s _ h=>addI_len l gates i s h) gates.len 0 _ (by omega) (Nat.le_refl _)
theorem s27_ok (l:Line) (gates:Sl Gate) (hn:gates.len≤40):p27 l gates=true∧s27 l gates=allP l gates:=by
  have := fold_loop (σ := Sl Int) (step := addI l gates) (E := id) (EP := fun _ => true) (Inv := fun i v => v.len ≤ i) (a := 0) (n := gates.len) (lpS := fun k v i => s27_lp0 l gates k i v) (lpP := fun k v i => p27_lp0 l gates k i v)
    (fun k i v _ hi _=>by
      show s27_st0 l gates (s27_lp0 l gates k) (i:Int) v=_
      generalize s27_lp0 l gates k=S
      unfold s27_st0 s27_at1 addI
      rw [decide_eq_true (show (i:Int) < (gates.len:Int) by omega),cond_true,Int.toNat_natCast]
      cases s72 l (gates.get i) <;> rfl)
    (fun k v=>by
      show s27_st0 l gates (s27_lp0 l gates k) (gates.len:Int) v=_
      unfold s27_st0
      rw [decide_eq_false (show ¬ (gates.len:Int) < (gates.len:Int) by omega),cond_false];rfl)
    (fun k i v _ hi hv=>by
      show p27_st0 l gates (p27_lp0 l gates k) (i:Int) v=_
      generalize p27_lp0 l gates k=S
      unfold p27_st0 p27_at1 addI
      rw [decide_eq_true (show (i:Int) < (gates.len:Int) by omega),cond_true,Int.toNat_natCast,decide_eq_true (show 0≤(i:Int)∧(i:Int) < (gates.len:Int) by omega),decide_eq_true (show (v.len+1) * 8≤140737488355328∧v.len+1≤9223372036854775807 by omega)]
      cases s72 l (gates.get i) <;> rfl)
    (fun k v=>by
      show p27_st0 l gates (p27_lp0 l gates k) (gates.len:Int) v=_
      unfold p27_st0
      rw [decide_eq_false (show ¬ (gates.len:Int) < (gates.len:Int) by omega),cond_false])
    (fun i v _ _ h=>addI_len l gates i v h) (Nat.zero_le _) (by omega) (⟨0,fun _=>default⟩:Sl Int) (Nat.le_refl _)
  exact this
theorem k52_ok (l:Line) (gates:Sl Gate) (hn:gates.len≤40):p52_at1 l gates=true∧s52_at1 l gates=(allP l gates,0):=by
  have := fold_loop (σ := Sl Int) (step := addI l gates) (E := fun v => (v, (0 : Int))) (EP := fun _ => true) (Inv := fun i v => v.len ≤ i) (a := 0) (n := gates.len) (lpS := fun k v i => s52_lp2 l gates k i v) (lpP := fun k v i => p52_lp2 l gates k i v)
    (fun k i v _ hi _=>by
      show s52_st2 l gates (s52_lp2 l gates k) (i:Int) v=_
      generalize s52_lp2 l gates k=S
      unfold s52_st2 s52_at3 addI
      rw [decide_eq_true (show (i:Int) < (gates.len:Int) by omega),cond_true,Int.toNat_natCast,pass_eq]
      cases s72 l (gates.get i) <;> rfl)
    (fun k v=>by
      show s52_st2 l gates (s52_lp2 l gates k) (gates.len:Int) v=_
      unfold s52_st2
      rw [decide_eq_false (show ¬ (gates.len:Int) < (gates.len:Int) by omega),cond_false])
    (fun k i v _ hi hv=>by
      show p52_st2 l gates (p52_lp2 l gates k) (i:Int) v=_
      generalize p52_lp2 l gates k=S
      unfold p52_st2 p52_at3 addI
      rw [decide_eq_true (show (i:Int) < (gates.len:Int) by omega),cond_true,Int.toNat_natCast,pass_eq,decide_eq_true (show 0≤(i:Int)∧(i:Int) < (gates.len:Int) by omega),decide_eq_true (show (v.len+1) * 8≤140737488355328∧v.len+1≤9223372036854775807 by omega)]
      cases s72 l (gates.get i) <;> rfl)
    (fun k v=>by
      show p52_st2 l gates (p52_lp2 l gates k) (gates.len:Int) v=_
      unfold p52_st2
      rw [decide_eq_false (show ¬ (gates.len:Int) < (gates.len:Int) by omega),cond_false])
    (fun i v _ _ h=>addI_len l gates i v h) (Nat.zero_le _) (by omega) (⟨0,fun _=>default⟩:Sl Int) (Nat.le_refl _)
  exact this
theorem s52_ok (l:Line) (gates:Sl Gate) (hn:gates.len≤40):p52 l gates=true ∧
    s52 l gates=cond (s53 l && s64 gates) (allP l gates,0) ((⟨0,fun _=>default⟩:Sl Int),2):=by
  obtain ⟨a1,_,a2⟩:=low_ok l.Slope 2000000 (by omega) (by omega)
  obtain ⟨b1,_,b2⟩:=low_ok l.Start 1000000000000 (by omega) (by omega)
  obtain ⟨c1,c2⟩:=k52_ok l gates hn
  have d1:=(s64_ok gates (by omega)).1
  unfold p52 s52 p52_at0 s52_at0
  rw [a1,b1,a2,b2,(s53_ok l).2,c1,c2,d1]
  cases s91 l.Slope 2000000 <;> cases s91 l.Start 1000000000000 <;> cases s64 gates <;> exact ⟨rfl,rfl⟩
theorem s51_ok (gates:Sl Gate) (hn:gates.len≤40):p51 gates=true∧s51 gates=cond (s64 gates) 0 2:=by
  unfold p51 s51
  rw [(s64_ok gates (by omega)).1]
  cases s64 gates <;> exact ⟨rfl,rfl⟩
theorem checks_true (a0:Line) (a1:(Sl Gate)):p13 a0 a1=true∧s13 a0 a1=true:=by
  unfold p13 s13
  by_cases h1:(a1.len:Int) > 40
  · rw [decide_eq_true h1];exact ⟨rfl,rfl⟩
  have hn:a1.len≤40:=by omega
  rw [decide_eq_false h1,cond_false,cond_false]
  obtain ⟨c1,c2⟩:=s51_ok a1 hn
  obtain ⟨d1,d2⟩:=s52_ok a0 a1 hn
  obtain ⟨e1,e2⟩:=s27_ok a0 a1 hn
  obtain ⟨f1,f2⟩:=s39_same (allP a0 a1) (allP a0 a1) ⟨rfl,fun _ _=>rfl⟩ (by have:=allP_len a0 a1;omega)
  unfold p13_at0 s13_at0 p13_at1 s13_at1 p13_at2 s13_at2 p13_at3 s13_at3 p13_at4 s13_at4
  rw [(s20_ok a1 (by omega)).1,c1,c2,d1,d2,← s64_eq a1 (by omega),(s53_ok a0).1]
  generalize s64 a1=b1
  generalize s53 a0=b2
  cases b1
  · cases b2 <;> exact ⟨rfl,rfl⟩
  · cases b2
    · exact ⟨rfl,rfl⟩
    · unfold p13_at5 s13_at5 p13_at6 s13_at6
      simp only [Bool.not_true,cond_false,cond_true,Bool.and_self,e1,e2,f1,f2,decide_true,Bool.true_and,bne_self_eq_false,beq_self_eq_true,and_self]
end Go.Proofs
