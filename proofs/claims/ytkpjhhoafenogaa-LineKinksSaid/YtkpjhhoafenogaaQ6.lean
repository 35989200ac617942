/- Part 6 of what the proof rests on: a machine that runs functions of the program on pure values, proved sound; the functions that the law reaches, and what they compute. -/
import Derived.Test.YtkpjhhoafenogaaQ5
set_option linter.all false
namespace Go.Proofs
open Go Go.Pm
set_option maxRecDepth 100000
set_option linter.unusedVariables false
attribute [local irreducible] Go.Pm.vcFun Go.Pm.vc Go.Pm.vcIter
def rngI (a b:Int):List Int:=(List.range (b - a+1).toNat).map fun (i:Nat)=>a+i
def keys55 (gates:Sl Gate):List (List Int):=(rngI (gates.get 0).Low (gates.get 0).High).flatMap fun p=>(rngI (gates.get 1).Low (gates.get 1).High).map fun q=>[p,q]
abbrev T55:Tabs:=(((Tabs.nil.addF 85 ctr85).addF 92 ctr92).addF 93 ctr93)
theorem okT55:TabsOk Try.prog T55:=(((TabsOk.nil.addF ok85).addF ok92).addF ok93)
abbrev G55:Ctrs:=csm T55 (fun _ _=>[]) (fun _=>false)
def ann55:Ann:=⟨145,[(0,⟨[0],[],[],[],[],[],[]⟩),(1,⟨[0,18],[],[],[],[],[],[]⟩),(2,⟨[2,3,4],[],[],[],[],[],[]⟩),(3,⟨[0,5],[],[],[],[],[],[]⟩),(4,⟨[0,5,6],[],[],[],[],[],[]⟩),(5,⟨[0,5,6,24],[24],[],[],[],[],[]⟩),(6,⟨[0,5,6,24,26],[24],[],[],[],[],[]⟩),(7,⟨[0,5,6,8,24],[24],[],[],[],[],[]⟩),(8,⟨[0,5,6,8,24,35],[24],[],[],[],[],[]⟩),(9,⟨[0,5,6,24],[24],[],[],[],[],[]⟩),(10,⟨[0,5,6,9],[],[],[],[],[],[]⟩),(11,⟨[0,5,6,9,10],[],[],[],[],[],[]⟩),(12,⟨[0,5,6,9,10,46],[],[],[],[],[],[]⟩),(13,⟨[0,5,6,9,10],[],[],[],[],[],[]⟩),(14,⟨[0,5,6,9,10,11],[],[],[],[],[],[]⟩),(15,⟨[0,5,6,9,10,11,58],[],[],[],[],[],[]⟩),(16,⟨[0,5,6,9,10,11],[],[],[],[],[],[]⟩),(17,⟨[0,5,6,9,10,11,69],[],[],[],[],[],[]⟩),(18,⟨[0,5,6,9],[72],[],[],[],[],[]⟩),(19,⟨[0,5,6,9,12],[72],[],[],[],[],[]⟩),(20,⟨[0,5,6,9,12,76],[72],[],[],[],[],[]⟩),(21,⟨[0,5,6,9,12],[72],[],[],[],[],[]⟩),(22,⟨[0,5,6,9,12,13,14],[72],[],[],[],[],[]⟩),(23,⟨[0,5,6,9,12,13,14,15],[72],[],[],[],[],[]⟩),(24,⟨[0,5,6,9,12,13,14,15,100],[72],[],[],[],[],[]⟩),(25,⟨[0,5,6,9,12,13,14,15],[72],[],[],[],[],[]⟩),(26,⟨[0,5,6,9,12,13,14,15,138],[72],[],[],[],[],[]⟩),(27,⟨[0,5,6,9,12],[72],[],[],[],[],[]⟩),(28,⟨[2,3,4],[72],[],[],[],[],[]⟩)],
  [(6,⟨[0,5,6,24],[24],[],[],[],[],[]⟩),(12,⟨[0,5,6,9,10],[],[],[],[],[],[]⟩),(15,⟨[0,5,6,9,10,11],[],[],[],[],[],[]⟩),(20,⟨[0,5,6,9,12],[72],[],[],[],[],[]⟩),(24,⟨[0,5,6,9,12,13,14,15],[72],[],[],[],[],[]⟩)],
  [(2,⟨[0,18],[],[],[],[],[],[]⟩),(3,⟨[0],[],[],[],[],[],[]⟩),(4,⟨[0,5],[],[],[],[],[],[]⟩),(10,⟨[0,5,6],[],[],[],[],[],[]⟩),(19,⟨[0,5,6,9],[72],[(9,72,3,fun _=>enc_3 default)],[],[],[],[]⟩),(27,⟨[0,5,6,9,12,13,14,15,138],[72],[],[],[],[],[]⟩)],
  [],[]⟩
def f55_g0 (gates:(Sl Gate)) (t18v0:Bool):St:=⟨[(0,.one (.c (.p (.sl gates.len 3 (fun i=>enc_55 (gates.get i)))))),(18,.one (.c (.p (.bool t18v0))))],[],[]⟩
def f55_at0 (K:List PA→Prop) (gates:(Sl Gate)) (t18v0:Bool):Prop:=vc Try.prog G55 ann55 (cdF Try.f55 [1,0,0,1]) (sqK Try.prog G55 ann55 (cdF Try.f55 [1,0,1]) (scopeK (bodyK Try.prog Try.f55 K))) (f55_g0 gates t18v0)
def f55_g1 (gates:(Sl Gate)):St:=⟨[(0,.one (.c (.p (.sl gates.len 3 (fun i=>enc_55 (gates.get i))))))],[],[]⟩
def f55_at1 (K:List PA→Prop) (gates:(Sl Gate)):Prop:=vc Try.prog G55 ann55 (cdF Try.f55 [1,0,1]) (scopeK (bodyK Try.prog Try.f55 K)) (f55_g1 gates)
def f55_g2 (gates:(Sl Gate)) (tablev2_n:Nat) (tablev2_g:Nat→List PV):St:=⟨[(0,.one (.c (.p (.sl gates.len 3 (fun i=>enc_55 (gates.get i)))))),(5,.one (.c (.p (.sl tablev2_n 1 tablev2_g))))],[],[]⟩
def f55_at2 (K:List PA→Prop) (gates:(Sl Gate)) (tablev2_n:Nat) (tablev2_g:Nat→List PV):Prop:=vc Try.prog G55 ann55 (cdF Try.f55 [1,0,1,1]) (scopeK (bodyK Try.prog Try.f55 K)) (f55_g2 gates tablev2_n tablev2_g)
def f55_g3 (gates:(Sl Gate)) (tablev2:(Sl Mp)) (seen24v3:(List (List Int))) (kinkv3:Int):St:=⟨[(0,.one (.c (.p (.sl gates.len 3 (fun i=>enc_55 (gates.get i)))))),(5,.one (.c (.p (.sl tablev2.len 1 (fun i=>enc_129 (tablev2.get i)))))),(6,.one (.c (.p (.int .i64 kinkv3)))),(24,.one (.c (.ptr 24 0)))],[(24,.mit (true,2,false,[some .i64]) ((tablev2.get 0).n) ((tablev2.get 0).F) seen24v3)],[]⟩
def f55_at3 (K:List PA→Prop) (gates:(Sl Gate)) (tablev2:(Sl Mp)) (seen24v3:(List (List Int))) (kinkv3:Int):Prop:=vc Try.prog G55 ann55 (cdF Try.f55 [1,0,1,1,1,0,1,0]) (blockK 0 (sqK Try.prog G55 ann55 (cdF Try.f55 [1,0,1,1,1,1]) (scopeK (bodyK Try.prog Try.f55 K)))) (f55_g3 gates tablev2 seen24v3 kinkv3)
def f55_g4 (gates:(Sl Gate)) (tablev2:(Sl Mp)) (kinkv4:Int):St:=⟨[(0,.one (.c (.p (.sl gates.len 3 (fun i=>enc_55 (gates.get i)))))),(5,.one (.c (.p (.sl tablev2.len 1 (fun i=>enc_129 (tablev2.get i)))))),(6,.one (.c (.p (.int .i64 kinkv4))))],[],[]⟩
def f55_at4 (K:List PA→Prop) (gates:(Sl Gate)) (tablev2:(Sl Mp)) (kinkv4:Int):Prop:=vc Try.prog G55 ann55 (cdF Try.f55 [1,0,1,1,1,1]) (scopeK (bodyK Try.prog Try.f55 K)) (f55_g4 gates tablev2 kinkv4)
def f55_g5 (gates:(Sl Gate)) (tablev2:(Sl Mp)) (kinkv5:Int) (pv5:Int):St:=⟨[(0,.one (.c (.p (.sl gates.len 3 (fun i=>enc_55 (gates.get i)))))),(5,.one (.c (.p (.sl tablev2.len 1 (fun i=>enc_129 (tablev2.get i)))))),(6,.one (.c (.p (.int .i64 kinkv5)))),(9,.one (.c (.p (.nils)))),(10,.one (.c (.p (.int .i64 pv5))))],[],[]⟩
def f55_at5 (K:List PA→Prop) (gates:(Sl Gate)) (tablev2:(Sl Mp)) (kinkv5:Int) (pv5:Int):Prop:=vc Try.prog G55 ann55 (cdF Try.f55 [1,0,1,1,1,1,1,1,0,1,0]) (blockK 2 (sqK Try.prog G55 ann55 (cdF Try.f55 [1,0,1,1,1,1,1,1,1]) (scopeK (bodyK Try.prog Try.f55 K)))) (f55_g5 gates tablev2 kinkv5 pv5)
def f55_g6 (gates:(Sl Gate)) (tablev2:(Sl Mp)) (kinkv6:Int) (pv6:Int) (qv6:Int):St:=⟨[(0,.one (.c (.p (.sl gates.len 3 (fun i=>enc_55 (gates.get i)))))),(5,.one (.c (.p (.sl tablev2.len 1 (fun i=>enc_129 (tablev2.get i)))))),(6,.one (.c (.p (.int .i64 kinkv6)))),(9,.one (.c (.p (.nils)))),(10,.one (.c (.p (.int .i64 pv6)))),(11,.one (.c (.p (.int .i64 qv6))))],[],[]⟩
def f55_at6 (K:List PA→Prop) (X5:St→Prop) (gates:(Sl Gate)) (tablev2:(Sl Mp)) (kinkv6:Int) (pv6:Int) (qv6:Int):Prop:=vc Try.prog G55 ann55 (cdF Try.f55 [1,0,1,1,1,1,1,1,0,1,0,0,1,0,0,1,0]) (blockK 4 (blockK 3 (sqK Try.prog G55 ann55 (cdF Try.f55 [1,0,1,1,1,1,1,1,0,1,0,0,1,1]) (loopK Try.prog ann55 12 X5 (blockK 2 (sqK Try.prog G55 ann55 (cdF Try.f55 [1,0,1,1,1,1,1,1,1]) (scopeK (bodyK Try.prog Try.f55 K)))))))) (f55_g6 gates tablev2 kinkv6 pv6 qv6)
def f55_g7 (gates:(Sl Gate)) (tablev2:(Sl Mp)) (kinkv7:Int) (v72v7_n:Nat) (v72v7_g:Nat→List PV):St:=⟨[(0,.one (.c (.p (.sl gates.len 3 (fun i=>enc_55 (gates.get i)))))),(5,.one (.c (.p (.sl tablev2.len 1 (fun i=>enc_129 (tablev2.get i)))))),(6,.one (.c (.p (.int .i64 kinkv7)))),(9,.one (.c (.vec 72)))],[(72,.vec 3 1 8 v72v7_n v72v7_g)],[]⟩
def f55_at7 (K:List PA→Prop) (gates:(Sl Gate)) (tablev2:(Sl Mp)) (kinkv7:Int) (v72v7_n:Nat) (v72v7_g:Nat→List PV):Prop:=vc Try.prog G55 ann55 (cdF Try.f55 [1,0,1,1,1,1,1,1,1]) (scopeK (bodyK Try.prog Try.f55 K)) (f55_g7 gates tablev2 kinkv7 v72v7_n v72v7_g)
def f55_g8 (gates:(Sl Gate)) (tablev2:(Sl Mp)) (kinkv8:Int) (iv8:Int) (v72v8_n:Nat) (v72v8_g:Nat→List PV):St:=⟨[(0,.one (.c (.p (.sl gates.len 3 (fun i=>enc_55 (gates.get i)))))),(5,.one (.c (.p (.sl tablev2.len 1 (fun i=>enc_129 (tablev2.get i)))))),(6,.one (.c (.p (.int .i64 kinkv8)))),(9,.one (.c (.vec 72))),(12,.one (.c (.p (.int .i64 iv8))))],[(72,.vec 3 1 8 v72v8_n v72v8_g)],[]⟩
def f55_at8 (K:List PA→Prop) (gates:(Sl Gate)) (tablev2:(Sl Mp)) (kinkv8:Int) (iv8:Int) (v72v8_n:Nat) (v72v8_g:Nat→List PV):Prop:=vc Try.prog G55 ann55 (cdF Try.f55 [1,0,1,1,1,1,1,1,1,0,1,0]) (blockK 6 (sqK Try.prog G55 ann55 (cdF Try.f55 [1,0,1,1,1,1,1,1,1,1]) (scopeK (bodyK Try.prog Try.f55 K)))) (f55_g8 gates tablev2 kinkv8 iv8 v72v8_n v72v8_g)
def f55_g9 (gates:(Sl Gate)) (tablev2:(Sl Mp)) (kinkv9:Int) (iv9:Int) (pv9:Int) (qv9:Int) (rv9:Int) (v72v9_n:Nat) (v72v9_g:Nat→List PV):St:=⟨[(0,.one (.c (.p (.sl gates.len 3 (fun i=>enc_55 (gates.get i)))))),(5,.one (.c (.p (.sl tablev2.len 1 (fun i=>enc_129 (tablev2.get i)))))),(6,.one (.c (.p (.int .i64 kinkv9)))),(9,.one (.c (.vec 72))),(12,.one (.c (.p (.int .i64 iv9)))),(13,.one (.c (.p (.int .i64 pv9)))),(14,.one (.c (.p (.int .i64 qv9)))),(15,.one (.c (.p (.int .i64 rv9))))],[(72,.vec 3 1 8 v72v9_n v72v9_g)],[]⟩
def f55_at9 (K:List PA→Prop) (X8:St→Prop) (gates:(Sl Gate)) (tablev2:(Sl Mp)) (kinkv9:Int) (iv9:Int) (pv9:Int) (qv9:Int) (rv9:Int) (v72v9_n:Nat) (v72v9_g:Nat→List PV):Prop:=vc Try.prog G55 ann55 (cdF Try.f55 [1,0,1,1,1,1,1,1,1,0,1,0,0,1,0,0,1,1,0]) (blockK 8 (blockK 7 (sqK Try.prog G55 ann55 (cdF Try.f55 [1,0,1,1,1,1,1,1,1,0,1,0,0,1,1]) (loopK Try.prog ann55 20 X8 (blockK 6 (sqK Try.prog G55 ann55 (cdF Try.f55 [1,0,1,1,1,1,1,1,1,1]) (scopeK (bodyK Try.prog Try.f55 K)))))))) (f55_g9 gates tablev2 kinkv9 iv9 pv9 qv9 rv9 v72v9_n v72v9_g)
def f55_g10 (gates:(Sl Gate)) (tablev2:(Sl Mp)) (kinkv10:Int) (iv10:Int) (pv10:Int) (qv10:Int) (rv10:Int) (t138v10:Bool) (v72v10_n:Nat) (v72v10_g:Nat→List PV):St:=⟨[(0,.one (.c (.p (.sl gates.len 3 (fun i=>enc_55 (gates.get i)))))),(5,.one (.c (.p (.sl tablev2.len 1 (fun i=>enc_129 (tablev2.get i)))))),(6,.one (.c (.p (.int .i64 kinkv10)))),(9,.one (.c (.vec 72))),(12,.one (.c (.p (.int .i64 iv10)))),(13,.one (.c (.p (.int .i64 pv10)))),(14,.one (.c (.p (.int .i64 qv10)))),(15,.one (.c (.p (.int .i64 rv10)))),(138,.one (.c (.p (.bool t138v10))))],[(72,.vec 3 1 8 v72v10_n v72v10_g)],[]⟩
def f55_at10 (K:List PA→Prop) (X8:St→Prop) (X9:St→Prop) (gates:(Sl Gate)) (tablev2:(Sl Mp)) (kinkv10:Int) (iv10:Int) (pv10:Int) (qv10:Int) (rv10:Int) (t138v10:Bool) (v72v10_n:Nat) (v72v10_g:Nat→List PV):Prop:=vc Try.prog G55 ann55 (cdF Try.f55 [1,0,1,1,1,1,1,1,1,0,1,0,0,1,0,0,1,1,0,0,1,0,0,1]) (blockK 9 (sqK Try.prog G55 ann55 (cdF Try.f55 [1,0,1,1,1,1,1,1,1,0,1,0,0,1,0,0,1,1,0,0,1,1]) (loopK Try.prog ann55 24 X9 (blockK 8 (blockK 7 (sqK Try.prog G55 ann55 (cdF Try.f55 [1,0,1,1,1,1,1,1,1,0,1,0,0,1,1]) (loopK Try.prog ann55 20 X8 (blockK 6 (sqK Try.prog G55 ann55 (cdF Try.f55 [1,0,1,1,1,1,1,1,1,1]) (scopeK (bodyK Try.prog Try.f55 K))))))))))) (f55_g10 gates tablev2 kinkv10 iv10 pv10 qv10 rv10 t138v10 v72v10_n v72v10_g)
theorem f55_top (gates : (Sl Gate)) (K : List PA → Prop) :
  vcFun Try.prog G55 ann55 55 [.one (.sl gates.len 3 (fun i=>enc_55 (gates.get i)))] K =
  ((IsE enc_55 3 3 (fun i=>enc_55 (gates.get i))∧(p92 gates=true)) ∧
  (f55_at0 K gates (!(s92 gates)))):=by kernel_rfl
theorem f55_eq0 (K : List PA → Prop) (gates : (Sl Gate)) (t18v0 : Bool) :
  f55_at0 K gates t18v0 =
  (condP t18v0
   (K [.one (.nils),.one (.int .i64 (0:Int)),.one (.int .i64 (2:Int))])
   (f55_at1 K gates)):=by kernel_rfl
theorem f55_eq1 (K : List PA → Prop) (gates : (Sl Gate)) :
  f55_at1 K gates =
  ((IsE enc_55 3 3 (fun i=>enc_55 (gates.get i))∧(p93 gates=true)) ∧
  (f55_at2 K gates ((s93 gates).len) (fun i=>enc_129 ((s93 gates).get i)))):=by kernel_rfl
theorem f55_eq2 (K : List PA → Prop) (gates : (Sl Gate)) (tablev2 : (Sl Mp)) :
  f55_at2 K gates tablev2.len (fun i=>enc_129 (tablev2.get i)) =
  (((0≤(0:Int)∧(0:Int) < (tablev2.len:Int))) ∧
  (f55_at3 K gates tablev2 ([]) (-1:Int))):=by kernel_rfl
def f55_step3 (K:List PA→Prop) (X3:St→Prop) (gates:(Sl Gate)) (tablev2:(Sl Mp)) (seen24v3:(List (List Int))) (kinkv3:Int):Prop :=
  (FinM 2 ((tablev2.get 0).n) ((tablev2.get 0).F) →
  ((∀ c:List Int,c.length=2→((tablev2.get 0).F) c ≠ none→c∈seen24v3) →
  (f55_at4 K gates tablev2 kinkv3))∧∀ k24_0 k24_1:Int,((tablev2.get 0).F) [k24_0,k24_1] ≠ none→[k24_0,k24_1] ∉ seen24v3 →
  (condP (decide (kinkv3 < (0:Int)))
    (X3 (f55_g3 gates tablev2 ([k24_0,k24_1] :: seen24v3) (nthO (((tablev2.get 0).F) [k24_0,k24_1]) 0)))
    (condP (decide ((nthO (((tablev2.get 0).F) [k24_0, k24_1]) 0) < kinkv3))
     (X3 (f55_g3 gates tablev2 ([k24_0,k24_1] :: seen24v3) (nthO (((tablev2.get 0).F) [k24_0,k24_1]) 0)))
     (X3 (f55_g3 gates tablev2 ([k24_0,k24_1] :: seen24v3) kinkv3)))))
theorem f55_stepeq3 (K : List PA → Prop) (X3 : St → Prop) (gates : (Sl Gate)) (tablev2 : (Sl Mp)) (seen24v3 : (List (List Int))) (kinkv3 : Int) :
  vc Try.prog G55 ann55 (cd (cdF Try.f55 [1,0,1,1,1,0,1,0]) [0]) (loopK Try.prog ann55 6 X3 (blockK 0 (sqK Try.prog G55 ann55 (cdF Try.f55 [1,0,1,1,1,1]) (scopeK (bodyK Try.prog Try.f55 K))))) (f55_g3 gates tablev2 seen24v3 kinkv3) =
  f55_step3 K X3 gates tablev2 seen24v3 kinkv3:=by kernel_rfl
theorem f55_loop3 (K : List PA → Prop) (gates : (Sl Gate)) (tablev2 : (Sl Mp)) (seen24v3 : (List (List Int))) (kinkv3 : Int)
  (h:∀ X3:St→Prop,(∀ (seen24v3:(List (List Int))) (kinkv3:Int),f55_step3 K X3 gates tablev2 seen24v3 kinkv3→X3 (f55_g3 gates tablev2 seen24v3 kinkv3))→X3 (f55_g3 gates tablev2 seen24v3 kinkv3)) :
  f55_at3 K gates tablev2 seen24v3 kinkv3:=by
  have e:f55_at3 K gates tablev2 seen24v3 kinkv3=(∀ X:St→Prop,(∀ s,vc Try.prog G55 ann55 (cd (cdF Try.f55 [1,0,1,1,1,0,1,0]) [0]) (loopK Try.prog ann55 6 X (blockK 0 (sqK Try.prog G55 ann55 (cdF Try.f55 [1,0,1,1,1,1]) (scopeK (bodyK Try.prog Try.f55 K))))) s→X s)→X (f55_g3 gates tablev2 seen24v3 kinkv3)):=by kernel_rfl
  refine ofEq e ?_
  intro X hX
  refine h X ?_
  intro seen24v3 kinkv3 hs
  refine hX _ ?_
  have e2:=f55_stepeq3 K X gates tablev2 seen24v3 kinkv3
  rw [e2]
  exact hs
theorem f55_eq4 (K : List PA → Prop) (gates : (Sl Gate)) (tablev2 : (Sl Mp)) (kinkv4 : Int) :
  f55_at4 K gates tablev2 kinkv4 =
  (((0≤(0:Int)∧(0:Int) < (gates.len:Int))) ∧
  (f55_at5 K gates tablev2 kinkv4 ((gates.get 0).Low))):=by kernel_rfl
def f55_step5 (K:List PA→Prop) (X5:St→Prop) (gates:(Sl Gate)) (tablev2:(Sl Mp)) (kinkv5:Int) (pv5:Int):Prop :=
  (((0≤(0:Int)∧(0:Int) < (gates.len:Int))) ∧
  (condP (decide (pv5 ≤ (gates.get 0).High))
   (((0≤(1:Int)∧(1:Int) < (gates.len:Int))) ∧
   (f55_at6 K X5 gates tablev2 kinkv5 pv5 ((gates.get 1).Low)))
   (f55_at7 K gates tablev2 kinkv5 0 (fun i=>enc_3 ((fun _=>default) i)))))
theorem f55_stepeq5 (K : List PA → Prop) (X5 : St → Prop) (gates : (Sl Gate)) (tablev2 : (Sl Mp)) (kinkv5 : Int) (pv5 : Int) :
  vc Try.prog G55 ann55 (cd (cdF Try.f55 [1,0,1,1,1,1,1,1,0,1,0]) [0]) (loopK Try.prog ann55 12 X5 (blockK 2 (sqK Try.prog G55 ann55 (cdF Try.f55 [1,0,1,1,1,1,1,1,1]) (scopeK (bodyK Try.prog Try.f55 K))))) (f55_g5 gates tablev2 kinkv5 pv5) =
  f55_step5 K X5 gates tablev2 kinkv5 pv5:=by kernel_rfl
theorem f55_loop5 (K : List PA → Prop) (gates : (Sl Gate)) (tablev2 : (Sl Mp)) (kinkv5 : Int) (pv5 : Int)
  (h:∀ X5:St→Prop,(∀ (kinkv5:Int) (pv5:Int),f55_step5 K X5 gates tablev2 kinkv5 pv5→X5 (f55_g5 gates tablev2 kinkv5 pv5))→X5 (f55_g5 gates tablev2 kinkv5 pv5)) :
  f55_at5 K gates tablev2 kinkv5 pv5:=by
  have e:f55_at5 K gates tablev2 kinkv5 pv5=(∀ X:St→Prop,(∀ s,vc Try.prog G55 ann55 (cd (cdF Try.f55 [1,0,1,1,1,1,1,1,0,1,0]) [0]) (loopK Try.prog ann55 12 X (blockK 2 (sqK Try.prog G55 ann55 (cdF Try.f55 [1,0,1,1,1,1,1,1,1]) (scopeK (bodyK Try.prog Try.f55 K))))) s→X s)→X (f55_g5 gates tablev2 kinkv5 pv5)):=by kernel_rfl
  refine ofEq e ?_
  intro X hX
  refine h X ?_
  intro kinkv5 pv5 hs
  refine hX _ ?_
  have e2:=f55_stepeq5 K X gates tablev2 kinkv5 pv5
  rw [e2]
  exact hs
def f55_step6 (K:List PA→Prop) (X5:St→Prop) (X6:St→Prop) (gates:(Sl Gate)) (tablev2:(Sl Mp)) (kinkv6:Int) (pv6:Int) (qv6:Int):Prop :=
  (((0≤(1:Int)∧(1:Int) < (gates.len:Int))) ∧
  (condP (decide (qv6 ≤ (gates.get 1).High))
   (((0≤(0:Int)∧(0:Int) < (tablev2.len:Int))) ∧
   (condP ((nthO (((tablev2.get 0).F) [pv6, qv6]) 0) == kinkv6)
    (f55_at7 K gates tablev2 kinkv6 2 (getL [(enc_3 pv6),(enc_3 qv6)]))
    (X6 (f55_g6 gates tablev2 kinkv6 pv6 (w64 (qv6+(1:Int)))))))
   (X5 (f55_g5 gates tablev2 kinkv6 (w64 (pv6+(1:Int)))))))
theorem f55_stepeq6 (K : List PA → Prop) (X5 : St → Prop) (X6 : St → Prop) (gates : (Sl Gate)) (tablev2 : (Sl Mp)) (kinkv6 : Int) (pv6 : Int) (qv6 : Int) :
  vc Try.prog G55 ann55 (cd (cdF Try.f55 [1,0,1,1,1,1,1,1,0,1,0,0,1,0,0,1,0]) [0]) (loopK Try.prog ann55 15 X6 (blockK 4 (blockK 3 (sqK Try.prog G55 ann55 (cdF Try.f55 [1,0,1,1,1,1,1,1,0,1,0,0,1,1]) (loopK Try.prog ann55 12 X5 (blockK 2 (sqK Try.prog G55 ann55 (cdF Try.f55 [1,0,1,1,1,1,1,1,1]) (scopeK (bodyK Try.prog Try.f55 K))))))))) (f55_g6 gates tablev2 kinkv6 pv6 qv6) =
  f55_step6 K X5 X6 gates tablev2 kinkv6 pv6 qv6:=by kernel_rfl
theorem f55_loop6 (K : List PA → Prop) (X5 : St → Prop) (gates : (Sl Gate)) (tablev2 : (Sl Mp)) (kinkv6 : Int) (pv6 : Int) (qv6 : Int)
  (h:∀ X6:St→Prop,(∀ (kinkv6:Int) (pv6:Int) (qv6:Int),f55_step6 K X5 X6 gates tablev2 kinkv6 pv6 qv6→X6 (f55_g6 gates tablev2 kinkv6 pv6 qv6))→X6 (f55_g6 gates tablev2 kinkv6 pv6 qv6)) :
  f55_at6 K X5 gates tablev2 kinkv6 pv6 qv6:=by
  have e:f55_at6 K X5 gates tablev2 kinkv6 pv6 qv6=(∀ X:St→Prop,(∀ s,vc Try.prog G55 ann55 (cd (cdF Try.f55 [1,0,1,1,1,1,1,1,0,1,0,0,1,0,0,1,0]) [0]) (loopK Try.prog ann55 15 X (blockK 4 (blockK 3 (sqK Try.prog G55 ann55 (cdF Try.f55 [1,0,1,1,1,1,1,1,0,1,0,0,1,1]) (loopK Try.prog ann55 12 X5 (blockK 2 (sqK Try.prog G55 ann55 (cdF Try.f55 [1,0,1,1,1,1,1,1,1]) (scopeK (bodyK Try.prog Try.f55 K))))))))) s→X s)→X (f55_g6 gates tablev2 kinkv6 pv6 qv6)):=by kernel_rfl
  refine ofEq e ?_
  intro X hX
  refine h X ?_
  intro kinkv6 pv6 qv6 hs
  refine hX _ ?_
  have e2:=f55_stepeq6 K X5 X gates tablev2 kinkv6 pv6 qv6
  rw [e2]
  exact hs
theorem f55_eq7 (K : List PA → Prop) (gates : (Sl Gate)) (tablev2 : (Sl Mp)) (kinkv7 : Int) (v72v7 : (Sl Int)) :
  f55_at7 K gates tablev2 kinkv7 v72v7.len (fun i=>enc_3 (v72v7.get i)) =
  (f55_at8 K gates tablev2 kinkv7 (2:Int) v72v7.len (fun i=>enc_3 (v72v7.get i))):=by kernel_rfl
def f55_step8 (K:List PA→Prop) (X8:St→Prop) (gates:(Sl Gate)) (tablev2:(Sl Mp)) (kinkv8:Int) (iv8:Int) (v72v8:(Sl Int)):Prop :=
  (condP (decide (iv8 < (gates.len : Int)))
   (((0≤(w64 (iv8 - (2:Int)))∧(w64 (iv8 - (2:Int))) < (v72v8.len:Int))) ∧
   ((((w64 (iv8 - (2:Int))).toNat < v72v8.len)) ∧
   (((0≤(w64 (iv8 - (1:Int)))∧(w64 (iv8 - (1:Int))) < (v72v8.len:Int))) ∧
   ((((w64 (iv8 - (1:Int))).toNat < v72v8.len)) ∧
   (((0≤iv8∧iv8 < (gates.len:Int))) ∧
   (f55_at9 K X8 gates tablev2 kinkv8 iv8 (v72v8.get ((w64 (iv8 - (2:Int))).toNat)) (v72v8.get ((w64 (iv8 - (1:Int))).toNat)) ((gates.get iv8.toNat).Low) v72v8.len (fun i=>enc_3 (v72v8.get i))))))))
   (K [.one (.sl v72v8.len 1 (fun i=>enc_3 (v72v8.get i))),.one (.int .i64 kinkv8),.one (.int .i64 (0:Int))]))
theorem f55_stepeq8 (K : List PA → Prop) (X8 : St → Prop) (gates : (Sl Gate)) (tablev2 : (Sl Mp)) (kinkv8 : Int) (iv8 : Int) (v72v8 : (Sl Int)) :
  vc Try.prog G55 ann55 (cd (cdF Try.f55 [1,0,1,1,1,1,1,1,1,0,1,0]) [0]) (loopK Try.prog ann55 20 X8 (blockK 6 (sqK Try.prog G55 ann55 (cdF Try.f55 [1,0,1,1,1,1,1,1,1,1]) (scopeK (bodyK Try.prog Try.f55 K))))) (f55_g8 gates tablev2 kinkv8 iv8 v72v8.len (fun i=>enc_3 (v72v8.get i))) =
  f55_step8 K X8 gates tablev2 kinkv8 iv8 v72v8:=by kernel_rfl
theorem f55_loop8 (K : List PA → Prop) (gates : (Sl Gate)) (tablev2 : (Sl Mp)) (kinkv8 : Int) (iv8 : Int) (v72v8_n : Nat) (v72v8_g : Nat → List PV)
  (h:∀ X8:St→Prop,(∀ (kinkv8:Int) (iv8:Int) (v72v8:(Sl Int)),f55_step8 K X8 gates tablev2 kinkv8 iv8 v72v8→X8 (f55_g8 gates tablev2 kinkv8 iv8 v72v8.len (fun i=>enc_3 (v72v8.get i))))→X8 (f55_g8 gates tablev2 kinkv8 iv8 v72v8_n v72v8_g)) :
  f55_at8 K gates tablev2 kinkv8 iv8 v72v8_n v72v8_g:=by
  have e:f55_at8 K gates tablev2 kinkv8 iv8 v72v8_n v72v8_g=(∀ X:St→Prop,(∀ s,vc Try.prog G55 ann55 (cd (cdF Try.f55 [1,0,1,1,1,1,1,1,1,0,1,0]) [0]) (loopK Try.prog ann55 20 X (blockK 6 (sqK Try.prog G55 ann55 (cdF Try.f55 [1,0,1,1,1,1,1,1,1,1]) (scopeK (bodyK Try.prog Try.f55 K))))) s→X s)→X (f55_g8 gates tablev2 kinkv8 iv8 v72v8_n v72v8_g)):=by kernel_rfl
  refine ofEq e ?_
  intro X hX
  refine h X ?_
  intro kinkv8 iv8 v72v8 hs
  refine hX _ ?_
  have e2:=f55_stepeq8 K X gates tablev2 kinkv8 iv8 v72v8
  rw [e2]
  exact hs
def f55_step9 (K:List PA→Prop) (X8:St→Prop) (X9:St→Prop) (gates:(Sl Gate)) (tablev2:(Sl Mp)) (kinkv9:Int) (iv9:Int) (pv9:Int) (qv9:Int) (rv9:Int) (v72v9:(Sl Int)):Prop :=
  (((0≤iv9∧iv9 < (gates.len:Int))) ∧
  (condP (decide (rv9 ≤ (gates.get iv9.toNat).High))
   (((0≤(w64 (iv9 - (2:Int)))∧(w64 (iv9 - (2:Int))) < (gates.len:Int))) ∧
   (((0≤(w64 (iv9 - (1:Int)))∧(w64 (iv9 - (1:Int))) < (gates.len:Int))) ∧
   (((0≤iv9∧iv9 < (gates.len:Int))) ∧
   (((p85 ((gates.get ((w64 (iv9 - (2:Int))).toNat)).Z) ((gates.get ((w64 (iv9 - (1:Int))).toNat)).Z) ((gates.get iv9.toNat).Z) pv9 qv9 rv9=true)) ∧
   (condP (decide ((s85 ((gates.get ((w64 (iv9 - (2:Int))).toNat)).Z) ((gates.get ((w64 (iv9 - (1:Int))).toNat)).Z) ((gates.get iv9.toNat).Z) pv9 qv9 rv9) ≤ kinkv9))
    (((0≤(w64 (iv9 - (1:Int)))∧(w64 (iv9 - (1:Int))) < (tablev2.len:Int))) ∧
    (f55_at10 K X8 X9 gates tablev2 kinkv9 iv9 pv9 qv9 rv9 (decide ((nthO (((tablev2.get ((w64 (iv9 - (1:Int))).toNat)).F) [qv9,rv9]) 0)≤kinkv9)) v72v9.len (fun i=>enc_3 (v72v9.get i))))
    (f55_at10 K X8 X9 gates tablev2 kinkv9 iv9 pv9 qv9 rv9 false v72v9.len (fun i=>enc_3 (v72v9.get i))))))))
   (X8 (f55_g8 gates tablev2 kinkv9 (w64 (iv9+(1:Int))) v72v9.len (fun i=>enc_3 (v72v9.get i))))))
theorem f55_stepeq9 (K : List PA → Prop) (X8 : St → Prop) (X9 : St → Prop) (gates : (Sl Gate)) (tablev2 : (Sl Mp)) (kinkv9 : Int) (iv9 : Int) (pv9 : Int) (qv9 : Int) (rv9 : Int) (v72v9 : (Sl Int)) :
  vc Try.prog G55 ann55 (cd (cdF Try.f55 [1,0,1,1,1,1,1,1,1,0,1,0,0,1,0,0,1,1,0]) [0]) (loopK Try.prog ann55 24 X9 (blockK 8 (blockK 7 (sqK Try.prog G55 ann55 (cdF Try.f55 [1,0,1,1,1,1,1,1,1,0,1,0,0,1,1]) (loopK Try.prog ann55 20 X8 (blockK 6 (sqK Try.prog G55 ann55 (cdF Try.f55 [1,0,1,1,1,1,1,1,1,1]) (scopeK (bodyK Try.prog Try.f55 K))))))))) (f55_g9 gates tablev2 kinkv9 iv9 pv9 qv9 rv9 v72v9.len (fun i=>enc_3 (v72v9.get i))) =
  f55_step9 K X8 X9 gates tablev2 kinkv9 iv9 pv9 qv9 rv9 v72v9:=by kernel_rfl
theorem f55_loop9 (K : List PA → Prop) (X8 : St → Prop) (gates : (Sl Gate)) (tablev2 : (Sl Mp)) (kinkv9 : Int) (iv9 : Int) (pv9 : Int) (qv9 : Int) (rv9 : Int) (v72v9_n : Nat) (v72v9_g : Nat → List PV)
  (h:∀ X9:St→Prop,(∀ (kinkv9:Int) (iv9:Int) (pv9:Int) (qv9:Int) (rv9:Int) (v72v9:(Sl Int)),f55_step9 K X8 X9 gates tablev2 kinkv9 iv9 pv9 qv9 rv9 v72v9→X9 (f55_g9 gates tablev2 kinkv9 iv9 pv9 qv9 rv9 v72v9.len (fun i=>enc_3 (v72v9.get i))))→X9 (f55_g9 gates tablev2 kinkv9 iv9 pv9 qv9 rv9 v72v9_n v72v9_g)) :
  f55_at9 K X8 gates tablev2 kinkv9 iv9 pv9 qv9 rv9 v72v9_n v72v9_g:=by
  have e:f55_at9 K X8 gates tablev2 kinkv9 iv9 pv9 qv9 rv9 v72v9_n v72v9_g=(∀ X:St→Prop,(∀ s,vc Try.prog G55 ann55 (cd (cdF Try.f55 [1,0,1,1,1,1,1,1,1,0,1,0,0,1,0,0,1,1,0]) [0]) (loopK Try.prog ann55 24 X (blockK 8 (blockK 7 (sqK Try.prog G55 ann55 (cdF Try.f55 [1,0,1,1,1,1,1,1,1,0,1,0,0,1,1]) (loopK Try.prog ann55 20 X8 (blockK 6 (sqK Try.prog G55 ann55 (cdF Try.f55 [1,0,1,1,1,1,1,1,1,1]) (scopeK (bodyK Try.prog Try.f55 K))))))))) s→X s)→X (f55_g9 gates tablev2 kinkv9 iv9 pv9 qv9 rv9 v72v9_n v72v9_g)):=by kernel_rfl
  refine ofEq e ?_
  intro X hX
  refine h X ?_
  intro kinkv9 iv9 pv9 qv9 rv9 v72v9 hs
  refine hX _ ?_
  have e2:=f55_stepeq9 K X8 X gates tablev2 kinkv9 iv9 pv9 qv9 rv9 v72v9
  rw [e2]
  exact hs
theorem f55_eq10 (K : List PA → Prop) (X8 : St → Prop) (X9 : St → Prop) (gates : (Sl Gate)) (tablev2 : (Sl Mp)) (kinkv10 : Int) (iv10 : Int) (pv10 : Int) (qv10 : Int) (rv10 : Int) (t138v10 : Bool) (v72v10 : (Sl Int)) :
  f55_at10 K X8 X9 gates tablev2 kinkv10 iv10 pv10 qv10 rv10 t138v10 v72v10.len (fun i=>enc_3 (v72v10.get i)) =
  (condP t138v10
   ((((v72v10.len+1) * 8≤140737488355328∧v72v10.len+1≤9223372036854775807)) ∧
   (X8 (f55_g8 gates tablev2 kinkv10 (w64 (iv10+(1:Int))) (v72v10.len+1) (appG v72v10.len (fun i=>enc_3 (v72v10.get i)) (fun _=>(enc_3 rv10))))))
   (X9 (f55_g9 gates tablev2 kinkv10 iv10 pv10 qv10 (w64 (rv10+(1:Int))) v72v10.len (fun i=>enc_3 (v72v10.get i))))):=by kernel_rfl
abbrev e55 (r:((Sl Int)×Int×Int)):List PA:=[.one (.sl r.1.len 1 (fun i=>enc_3 (r.1.get i))),.one (.int .i64 r.2.1),.one (.int .i64 r.2.2)]
attribute [irreducible] f55_at0 f55_at1 f55_at2 f55_at3 f55_at4 f55_at5 f55_at6 f55_at7 f55_at8 f55_at9 f55_at10
def s55_at10 (S8:Int→Int→(Sl Int)→((Sl Int)×Int×Int)) (S9:Int→Int→Int→Int→Int→(Sl Int)→((Sl Int)×Int×Int)) (gates:(Sl Gate)) (tablev2:(Sl Mp)) (kinkv10:Int) (iv10:Int) (pv10:Int) (qv10:Int) (rv10:Int) (t138v10:Bool) (v72v10:(Sl Int)):((Sl Int)×Int×Int) :=
  (cond t138v10
   (S8 kinkv10 (w64 (iv10+(1:Int))) (⟨(v72v10.len+1),(appT v72v10.len v72v10.get (fun _=>rv10))⟩:Sl Int))
   (S9 kinkv10 iv10 pv10 qv10 (w64 (rv10+(1:Int))) v72v10))
def p55_at10 (P8:Int→Int→(Sl Int)→Bool) (P9:Int→Int→Int→Int→Int→(Sl Int)→Bool) (gates:(Sl Gate)) (tablev2:(Sl Mp)) (kinkv10:Int) (iv10:Int) (pv10:Int) (qv10:Int) (rv10:Int) (t138v10:Bool) (v72v10:(Sl Int)):Bool :=
  (cond t138v10
   (decide (((v72v10.len+1) * 8≤140737488355328∧v72v10.len+1≤9223372036854775807)) &&
   (P8 kinkv10 (w64 (iv10+(1:Int))) (⟨(v72v10.len+1),(appT v72v10.len v72v10.get (fun _=>rv10))⟩:Sl Int)))
   (P9 kinkv10 iv10 pv10 qv10 (w64 (rv10+(1:Int))) v72v10))
theorem q55_at10 (K : List PA → Prop) (gates : (Sl Gate)) (tablev2 : (Sl Mp))
  (X8:St→Prop) (P8:Int→Int→(Sl Int)→Bool) (S8:Int→Int→(Sl Int)→((Sl Int)×Int×Int))
  (hX8:∀ (kinkv8:Int) (iv8:Int) (v72v8:(Sl Int)) (v72v8_g:Nat→List PV) (v72v8_h:v72v8_g=fun i=>enc_3 (v72v8.get i)),P8 kinkv8 iv8 v72v8=true→K (e55 (S8 kinkv8 iv8 v72v8))→X8 (f55_g8 gates tablev2 kinkv8 iv8 v72v8.len v72v8_g))
  (X9:St→Prop) (P9:Int→Int→Int→Int→Int→(Sl Int)→Bool) (S9:Int→Int→Int→Int→Int→(Sl Int)→((Sl Int)×Int×Int))
  (hX9:∀ (kinkv9:Int) (iv9:Int) (pv9:Int) (qv9:Int) (rv9:Int) (v72v9:(Sl Int)) (v72v9_g:Nat→List PV) (v72v9_h:v72v9_g=fun i=>enc_3 (v72v9.get i)),P9 kinkv9 iv9 pv9 qv9 rv9 v72v9=true→K (e55 (S9 kinkv9 iv9 pv9 qv9 rv9 v72v9))→X9 (f55_g9 gates tablev2 kinkv9 iv9 pv9 qv9 rv9 v72v9.len v72v9_g)) (kinkv10:Int) (iv10:Int) (pv10:Int) (qv10:Int) (rv10:Int) (t138v10:Bool) (v72v10:(Sl Int)) (v72v10_g:Nat→List PV) (v72v10_h:v72v10_g=fun i=>enc_3 (v72v10.get i)) (hs:p55_at10 P8 P9 gates tablev2 kinkv10 iv10 pv10 qv10 rv10 t138v10 v72v10=true) (hk:K (e55 (s55_at10 S8 S9 gates tablev2 kinkv10 iv10 pv10 qv10 rv10 t138v10 v72v10))):f55_at10 (Wk K) X8 X9 gates tablev2 kinkv10 iv10 pv10 qv10 rv10 t138v10 v72v10.len v72v10_g:=by
  subst v72v10_h
  refine ofEq (f55_eq10 (Wk K) X8 X9 gates tablev2 kinkv10 iv10 pv10 qv10 rv10 t138v10 v72v10) ?_
  unfold p55_at10 at hs
  unfold s55_at10 at hk
  exact (condB_go (K := fun r => K (e55 r))
   (fun hs hk=>(andK hs fun hc hs=>⟨hc,(hX8 kinkv10 (w64 (iv10+(1:Int))) (⟨(v72v10.len+1),(appT v72v10.len v72v10.get (fun _=>rv10))⟩:Sl Int) (appG v72v10.len (fun i=>enc_3 (v72v10.get i)) (fun _=>(enc_3 rv10))) (appG_e (enc:=enc_3) (f:=v72v10.get) (h:=(fun _=>rv10)) rfl rfl) hs hk)⟩))
   (fun hs hk=>(hX9 kinkv10 iv10 pv10 qv10 (w64 (rv10+(1:Int))) v72v10 (fun i=>enc_3 (v72v10.get i)) rfl hs hk)) hs hk)
def s55_st9 (S8:Int→Int→(Sl Int)→((Sl Int)×Int×Int)) (gates:(Sl Gate)) (tablev2:(Sl Mp)) (S9:Int→Int→Int→Int→Int→(Sl Int)→((Sl Int)×Int×Int)) (kinkv9:Int) (iv9:Int) (pv9:Int) (qv9:Int) (rv9:Int) (v72v9:(Sl Int)):((Sl Int)×Int×Int) :=
  (cond (decide (rv9 ≤ (gates.get iv9.toNat).High))
   (cond (decide ((s85 ((gates.get ((w64 (iv9 - (2:Int))).toNat)).Z) ((gates.get ((w64 (iv9 - (1:Int))).toNat)).Z) ((gates.get iv9.toNat).Z) pv9 qv9 rv9) ≤ kinkv9))
    (s55_at10 S8 S9 gates tablev2 kinkv9 iv9 pv9 qv9 rv9 (decide ((nthO (((tablev2.get ((w64 (iv9 - (1:Int))).toNat)).F) [qv9,rv9]) 0)≤kinkv9)) v72v9)
    (s55_at10 S8 S9 gates tablev2 kinkv9 iv9 pv9 qv9 rv9 false v72v9))
   (S8 kinkv9 (w64 (iv9+(1:Int))) v72v9))
def p55_st9 (P8:Int→Int→(Sl Int)→Bool) (gates:(Sl Gate)) (tablev2:(Sl Mp)) (P9:Int→Int→Int→Int→Int→(Sl Int)→Bool) (kinkv9:Int) (iv9:Int) (pv9:Int) (qv9:Int) (rv9:Int) (v72v9:(Sl Int)):Bool :=
  (decide ((0≤iv9∧iv9 < (gates.len:Int))) &&
  (cond (decide (rv9 ≤ (gates.get iv9.toNat).High))
   (decide ((0≤(w64 (iv9 - (2:Int)))∧(w64 (iv9 - (2:Int))) < (gates.len:Int))) &&
   (decide ((0≤(w64 (iv9 - (1:Int)))∧(w64 (iv9 - (1:Int))) < (gates.len:Int))) &&
   (decide ((0≤iv9∧iv9 < (gates.len:Int))) &&
   (decide ((p85 ((gates.get ((w64 (iv9 - (2:Int))).toNat)).Z) ((gates.get ((w64 (iv9 - (1:Int))).toNat)).Z) ((gates.get iv9.toNat).Z) pv9 qv9 rv9=true)) &&
   (cond (decide ((s85 ((gates.get ((w64 (iv9 - (2:Int))).toNat)).Z) ((gates.get ((w64 (iv9 - (1:Int))).toNat)).Z) ((gates.get iv9.toNat).Z) pv9 qv9 rv9) ≤ kinkv9))
    (decide ((0≤(w64 (iv9 - (1:Int)))∧(w64 (iv9 - (1:Int))) < (tablev2.len:Int))) &&
    (p55_at10 P8 P9 gates tablev2 kinkv9 iv9 pv9 qv9 rv9 (decide ((nthO (((tablev2.get ((w64 (iv9 - (1:Int))).toNat)).F) [qv9,rv9]) 0)≤kinkv9)) v72v9))
    (p55_at10 P8 P9 gates tablev2 kinkv9 iv9 pv9 qv9 rv9 false v72v9))))))
   (P8 kinkv9 (w64 (iv9+(1:Int))) v72v9)))
def s55_lp9 (S8 : Int → Int → (Sl Int) → ((Sl Int) × Int × Int)) (gates : (Sl Gate)) (tablev2 : (Sl Mp)) : Nat → Int → Int → Int → Int → Int → (Sl Int) → ((Sl Int) × Int × Int)
  | 0=>fun _ _ _ _ _ _=>default
  | k+1=>s55_st9 S8 gates tablev2 (s55_lp9 S8 gates tablev2 k)
def p55_lp9 (P8 : Int → Int → (Sl Int) → Bool) (gates : (Sl Gate)) (tablev2 : (Sl Mp)) : Nat → Int → Int → Int → Int → Int → (Sl Int) → Bool
  | 0=>fun _ _ _ _ _ _=>false
  | k+1=>p55_st9 P8 gates tablev2 (p55_lp9 P8 gates tablev2 k)
def s55_at9 (S8:Int→Int→(Sl Int)→((Sl Int)×Int×Int)) (gates:(Sl Gate)) (tablev2:(Sl Mp)) (kinkv9:Int) (iv9:Int) (pv9:Int) (qv9:Int) (rv9:Int) (v72v9:(Sl Int)):((Sl Int)×Int×Int):=s55_lp9 S8 gates tablev2 Fuel kinkv9 iv9 pv9 qv9 rv9 v72v9
def p55_at9 (P8:Int→Int→(Sl Int)→Bool) (gates:(Sl Gate)) (tablev2:(Sl Mp)) (kinkv9:Int) (iv9:Int) (pv9:Int) (qv9:Int) (rv9:Int) (v72v9:(Sl Int)):Bool:=p55_lp9 P8 gates tablev2 Fuel kinkv9 iv9 pv9 qv9 rv9 v72v9
theorem q55_at9 (K : List PA → Prop) (gates : (Sl Gate)) (tablev2 : (Sl Mp))
  (X8:St→Prop) (P8:Int→Int→(Sl Int)→Bool) (S8:Int→Int→(Sl Int)→((Sl Int)×Int×Int))
  (hX8:∀ (kinkv8:Int) (iv8:Int) (v72v8:(Sl Int)) (v72v8_g:Nat→List PV) (v72v8_h:v72v8_g=fun i=>enc_3 (v72v8.get i)),P8 kinkv8 iv8 v72v8=true→K (e55 (S8 kinkv8 iv8 v72v8))→X8 (f55_g8 gates tablev2 kinkv8 iv8 v72v8.len v72v8_g)) (kinkv9:Int) (iv9:Int) (pv9:Int) (qv9:Int) (rv9:Int) (v72v9:(Sl Int)) (v72v9_g:Nat→List PV) (v72v9_h:v72v9_g=fun i=>enc_3 (v72v9.get i)) (hs:p55_at9 P8 gates tablev2 kinkv9 iv9 pv9 qv9 rv9 v72v9=true) (hk:K (e55 (s55_at9 S8 gates tablev2 kinkv9 iv9 pv9 qv9 rv9 v72v9))):f55_at9 (Wk K) X8 gates tablev2 kinkv9 iv9 pv9 qv9 rv9 v72v9.len v72v9_g:=by
  refine f55_loop9 (Wk K) X8 gates tablev2 kinkv9 iv9 pv9 qv9 rv9 v72v9.len v72v9_g ?_
  intro X9 hstep
  have key:∀ (k:Nat) (kinkv9:Int) (iv9:Int) (pv9:Int) (qv9:Int) (rv9:Int) (v72v9:(Sl Int)) (v72v9_g:Nat→List PV) (v72v9_h:v72v9_g=fun i=>enc_3 (v72v9.get i)),p55_lp9 P8 gates tablev2 k kinkv9 iv9 pv9 qv9 rv9 v72v9=true→K (e55 (s55_lp9 S8 gates tablev2 k kinkv9 iv9 pv9 qv9 rv9 v72v9))→X9 (f55_g9 gates tablev2 kinkv9 iv9 pv9 qv9 rv9 v72v9.len v72v9_g):=by
    intro k
    induction k with
    | zero=>intro kinkv9 iv9 pv9 qv9 rv9 v72v9 v72v9_g v72v9_h hs;exact absurd hs Bool.false_ne_true
    | succ k ih =>
      intro kinkv9 iv9 pv9 qv9 rv9 v72v9 v72v9_g v72v9_h hs hk
      subst v72v9_h
      refine hstep kinkv9 iv9 pv9 qv9 rv9 v72v9 ?_
      have hs:p55_st9 P8 gates tablev2 (p55_lp9 P8 gates tablev2 k) kinkv9 iv9 pv9 qv9 rv9 v72v9=true:=hs
      have hk:K (e55 (s55_st9 S8 gates tablev2 (s55_lp9 S8 gates tablev2 k) kinkv9 iv9 pv9 qv9 rv9 v72v9)):=hk
      unfold p55_st9 at hs
      unfold s55_st9 at hk
      generalize s55_lp9 S8 gates tablev2 k=S9 at hk ih
      generalize p55_lp9 P8 gates tablev2 k=P9 at hs ih
      have hX9:=ih
      exact (andK hs fun hc hs => ⟨hc, (condB_go (K := fun r => K (e55 r))
       (fun hs hk => (andK hs fun hc hs => ⟨hc, (andK hs fun hc hs => ⟨hc, (andK hs fun hc hs => ⟨hc, (andK hs fun hc hs => ⟨hc, (condB_go (K := fun r => K (e55 r))
        (fun hs hk=>(andK hs fun hc hs=>⟨hc,(q55_at10 K gates tablev2 X8 P8 S8 hX8 X9 P9 S9 hX9 kinkv9 iv9 pv9 qv9 rv9 (decide ((nthO (((tablev2.get ((w64 (iv9 - (1:Int))).toNat)).F) [qv9,rv9]) 0)≤kinkv9)) v72v9 (fun i=>enc_3 (v72v9.get i)) rfl hs hk)⟩))
        (fun hs hk=>(q55_at10 K gates tablev2 X8 P8 S8 hX8 X9 P9 S9 hX9 kinkv9 iv9 pv9 qv9 rv9 false v72v9 (fun i=>enc_3 (v72v9.get i)) rfl hs hk)) hs hk)⟩)⟩)⟩)⟩))
       (fun hs hk=>(hX8 kinkv9 (w64 (iv9+(1:Int))) v72v9 (fun i=>enc_3 (v72v9.get i)) rfl hs hk)) hs hk)⟩)
  exact key _ kinkv9 iv9 pv9 qv9 rv9 v72v9 v72v9_g v72v9_h hs hk
def s55_st8 (gates:(Sl Gate)) (tablev2:(Sl Mp)) (S8:Int→Int→(Sl Int)→((Sl Int)×Int×Int)) (kinkv8:Int) (iv8:Int) (v72v8:(Sl Int)):((Sl Int)×Int×Int) :=
  (cond (decide (iv8 < (gates.len : Int)))
   (s55_at9 S8 gates tablev2 kinkv8 iv8 (v72v8.get ((w64 (iv8 - (2:Int))).toNat)) (v72v8.get ((w64 (iv8 - (1:Int))).toNat)) ((gates.get iv8.toNat).Low) v72v8)
   (v72v8,kinkv8,(0:Int)))
def p55_st8 (gates:(Sl Gate)) (tablev2:(Sl Mp)) (P8:Int→Int→(Sl Int)→Bool) (kinkv8:Int) (iv8:Int) (v72v8:(Sl Int)):Bool :=
  (cond (decide (iv8 < (gates.len : Int)))
   (decide ((0≤(w64 (iv8 - (2:Int)))∧(w64 (iv8 - (2:Int))) < (v72v8.len:Int))) &&
   (decide (((w64 (iv8 - (2:Int))).toNat < v72v8.len)) &&
   (decide ((0≤(w64 (iv8 - (1:Int)))∧(w64 (iv8 - (1:Int))) < (v72v8.len:Int))) &&
   (decide (((w64 (iv8 - (1:Int))).toNat < v72v8.len)) &&
   (decide ((0≤iv8∧iv8 < (gates.len:Int))) &&
   (p55_at9 P8 gates tablev2 kinkv8 iv8 (v72v8.get ((w64 (iv8 - (2:Int))).toNat)) (v72v8.get ((w64 (iv8 - (1:Int))).toNat)) ((gates.get iv8.toNat).Low) v72v8))))))
   true)
def s55_lp8 (gates : (Sl Gate)) (tablev2 : (Sl Mp)) : Nat → Int → Int → (Sl Int) → ((Sl Int) × Int × Int)
  | 0=>fun _ _ _=>default
  | k+1=>s55_st8 gates tablev2 (s55_lp8 gates tablev2 k)
def p55_lp8 (gates : (Sl Gate)) (tablev2 : (Sl Mp)) : Nat → Int → Int → (Sl Int) → Bool
  | 0=>fun _ _ _=>false
  | k+1=>p55_st8 gates tablev2 (p55_lp8 gates tablev2 k)
def s55_at8 (gates:(Sl Gate)) (tablev2:(Sl Mp)) (kinkv8:Int) (iv8:Int) (v72v8:(Sl Int)):((Sl Int)×Int×Int):=s55_lp8 gates tablev2 Fuel kinkv8 iv8 v72v8
def p55_at8 (gates:(Sl Gate)) (tablev2:(Sl Mp)) (kinkv8:Int) (iv8:Int) (v72v8:(Sl Int)):Bool:=p55_lp8 gates tablev2 Fuel kinkv8 iv8 v72v8
theorem q55_at8 (K:List PA→Prop) (gates:(Sl Gate)) (tablev2:(Sl Mp)) (kinkv8:Int) (iv8:Int) (v72v8:(Sl Int)) (v72v8_g:Nat→List PV) (v72v8_h:v72v8_g=fun i=>enc_3 (v72v8.get i)) (hs:p55_at8 gates tablev2 kinkv8 iv8 v72v8=true) (hk:K (e55 (s55_at8 gates tablev2 kinkv8 iv8 v72v8))):f55_at8 (Wk K) gates tablev2 kinkv8 iv8 v72v8.len v72v8_g:=by
  refine f55_loop8 (Wk K) gates tablev2 kinkv8 iv8 v72v8.len v72v8_g ?_
  intro X8 hstep
  have key:∀ (k:Nat) (kinkv8:Int) (iv8:Int) (v72v8:(Sl Int)) (v72v8_g:Nat→List PV) (v72v8_h:v72v8_g=fun i=>enc_3 (v72v8.get i)),p55_lp8 gates tablev2 k kinkv8 iv8 v72v8=true→K (e55 (s55_lp8 gates tablev2 k kinkv8 iv8 v72v8))→X8 (f55_g8 gates tablev2 kinkv8 iv8 v72v8.len v72v8_g):=by
    intro k
    induction k with
    | zero=>intro kinkv8 iv8 v72v8 v72v8_g v72v8_h hs;exact absurd hs Bool.false_ne_true
    | succ k ih =>
      intro kinkv8 iv8 v72v8 v72v8_g v72v8_h hs hk
      subst v72v8_h
      refine hstep kinkv8 iv8 v72v8 ?_
      have hs:p55_st8 gates tablev2 (p55_lp8 gates tablev2 k) kinkv8 iv8 v72v8=true:=hs
      have hk:K (e55 (s55_st8 gates tablev2 (s55_lp8 gates tablev2 k) kinkv8 iv8 v72v8)):=hk
      unfold p55_st8 at hs
      unfold s55_st8 at hk
      generalize s55_lp8 gates tablev2 k=S8 at hk ih
      generalize p55_lp8 gates tablev2 k=P8 at hs ih
      have hX8:=ih
      exact (condB_go (K := fun r => K (e55 r))
       (fun hs hk=>(andK hs fun hc hs=>⟨hc,(andK hs fun hc hs=>⟨hc,(andK hs fun hc hs=>⟨hc,(andK hs fun hc hs=>⟨hc,(andK hs fun hc hs=>⟨hc,(q55_at9 K gates tablev2 X8 P8 S8 hX8 kinkv8 iv8 (v72v8.get ((w64 (iv8 - (2:Int))).toNat)) (v72v8.get ((w64 (iv8 - (1:Int))).toNat)) ((gates.get iv8.toNat).Low) v72v8 (fun i=>enc_3 (v72v8.get i)) rfl hs hk)⟩)⟩)⟩)⟩)⟩))
       (fun hs hk=>(wk_rfl hk)) hs hk)
  exact key _ kinkv8 iv8 v72v8 v72v8_g v72v8_h hs hk
def s55_at7 (gates:(Sl Gate)) (tablev2:(Sl Mp)) (kinkv7:Int) (v72v7:(Sl Int)):((Sl Int)×Int×Int) :=
  (s55_at8 gates tablev2 kinkv7 (2:Int) v72v7)
def p55_at7 (gates:(Sl Gate)) (tablev2:(Sl Mp)) (kinkv7:Int) (v72v7:(Sl Int)):Bool :=
  (p55_at8 gates tablev2 kinkv7 (2:Int) v72v7)
theorem q55_at7 (K:List PA→Prop) (gates:(Sl Gate)) (tablev2:(Sl Mp)) (kinkv7:Int) (v72v7:(Sl Int)) (v72v7_g:Nat→List PV) (v72v7_h:v72v7_g=fun i=>enc_3 (v72v7.get i)) (hs:p55_at7 gates tablev2 kinkv7 v72v7=true) (hk:K (e55 (s55_at7 gates tablev2 kinkv7 v72v7))):f55_at7 (Wk K) gates tablev2 kinkv7 v72v7.len v72v7_g:=by
  subst v72v7_h
  refine ofEq (f55_eq7 (Wk K) gates tablev2 kinkv7 v72v7) ?_
  unfold p55_at7 at hs
  unfold s55_at7 at hk
  exact (q55_at8 K gates tablev2 kinkv7 (2:Int) v72v7 (fun i=>enc_3 (v72v7.get i)) rfl hs hk)
def s55_st6 (S5:Int→Int→((Sl Int)×Int×Int)) (gates:(Sl Gate)) (tablev2:(Sl Mp)) (S6:Int→Int→Int→((Sl Int)×Int×Int)) (kinkv6:Int) (pv6:Int) (qv6:Int):((Sl Int)×Int×Int) :=
  (cond (decide (qv6 ≤ (gates.get 1).High))
   (cond ((nthO (((tablev2.get 0).F) [pv6, qv6]) 0) == kinkv6)
    (s55_at7 gates tablev2 kinkv6 (⟨2,(getT pv6 [pv6,qv6])⟩:Sl Int))
    (S6 kinkv6 pv6 (w64 (qv6+(1:Int)))))
   (S5 kinkv6 (w64 (pv6+(1:Int)))))
def p55_st6 (P5:Int→Int→Bool) (gates:(Sl Gate)) (tablev2:(Sl Mp)) (P6:Int→Int→Int→Bool) (kinkv6:Int) (pv6:Int) (qv6:Int):Bool :=
  (decide ((0≤(1:Int)∧(1:Int) < (gates.len:Int))) &&
  (cond (decide (qv6 ≤ (gates.get 1).High))
   (decide ((0≤(0:Int)∧(0:Int) < (tablev2.len:Int))) &&
   (cond ((nthO (((tablev2.get 0).F) [pv6, qv6]) 0) == kinkv6)
    (p55_at7 gates tablev2 kinkv6 (⟨2,(getT pv6 [pv6,qv6])⟩:Sl Int))
    (P6 kinkv6 pv6 (w64 (qv6+(1:Int))))))
   (P5 kinkv6 (w64 (pv6+(1:Int))))))
def s55_lp6 (S5 : Int → Int → ((Sl Int) × Int × Int)) (gates : (Sl Gate)) (tablev2 : (Sl Mp)) : Nat → Int → Int → Int → ((Sl Int) × Int × Int)
  | 0=>fun _ _ _=>default
  | k+1=>s55_st6 S5 gates tablev2 (s55_lp6 S5 gates tablev2 k)
def p55_lp6 (P5 : Int → Int → Bool) (gates : (Sl Gate)) (tablev2 : (Sl Mp)) : Nat → Int → Int → Int → Bool
  | 0=>fun _ _ _=>false
  | k+1=>p55_st6 P5 gates tablev2 (p55_lp6 P5 gates tablev2 k)
def s55_at6 (S5:Int→Int→((Sl Int)×Int×Int)) (gates:(Sl Gate)) (tablev2:(Sl Mp)) (kinkv6:Int) (pv6:Int) (qv6:Int):((Sl Int)×Int×Int):=s55_lp6 S5 gates tablev2 Fuel kinkv6 pv6 qv6
def p55_at6 (P5:Int→Int→Bool) (gates:(Sl Gate)) (tablev2:(Sl Mp)) (kinkv6:Int) (pv6:Int) (qv6:Int):Bool:=p55_lp6 P5 gates tablev2 Fuel kinkv6 pv6 qv6
theorem q55_at6 (K : List PA → Prop) (gates : (Sl Gate)) (tablev2 : (Sl Mp))
  (X5:St→Prop) (P5:Int→Int→Bool) (S5:Int→Int→((Sl Int)×Int×Int))
  (hX5:∀ (kinkv5:Int) (pv5:Int),P5 kinkv5 pv5=true→K (e55 (S5 kinkv5 pv5))→X5 (f55_g5 gates tablev2 kinkv5 pv5)) (kinkv6:Int) (pv6:Int) (qv6:Int) (hs:p55_at6 P5 gates tablev2 kinkv6 pv6 qv6=true) (hk:K (e55 (s55_at6 S5 gates tablev2 kinkv6 pv6 qv6))):f55_at6 (Wk K) X5 gates tablev2 kinkv6 pv6 qv6:=by
  refine f55_loop6 (Wk K) X5 gates tablev2 kinkv6 pv6 qv6 ?_
  intro X6 hstep
  have key:∀ (k:Nat) (kinkv6:Int) (pv6:Int) (qv6:Int),p55_lp6 P5 gates tablev2 k kinkv6 pv6 qv6=true→K (e55 (s55_lp6 S5 gates tablev2 k kinkv6 pv6 qv6))→X6 (f55_g6 gates tablev2 kinkv6 pv6 qv6):=by
    intro k
    induction k with
    | zero=>intro kinkv6 pv6 qv6 hs;exact absurd hs Bool.false_ne_true
    | succ k ih =>
      intro kinkv6 pv6 qv6 hs hk
      refine hstep kinkv6 pv6 qv6 ?_
      have hs:p55_st6 P5 gates tablev2 (p55_lp6 P5 gates tablev2 k) kinkv6 pv6 qv6=true:=hs
      have hk:K (e55 (s55_st6 S5 gates tablev2 (s55_lp6 S5 gates tablev2 k) kinkv6 pv6 qv6)):=hk
      unfold p55_st6 at hs
      unfold s55_st6 at hk
      generalize s55_lp6 S5 gates tablev2 k=S6 at hk ih
      generalize p55_lp6 P5 gates tablev2 k=P6 at hs ih
      have hX6:=ih
      exact (andK hs fun hc hs => ⟨hc, (condB_go (K := fun r => K (e55 r))
       (fun hs hk => (andK hs fun hc hs => ⟨hc, (condB_go (K := fun r => K (e55 r))
        (fun hs hk=>(q55_at7 K gates tablev2 kinkv6 (⟨2,(getT pv6 [pv6,qv6])⟩:Sl Int) (getL [(enc_3 pv6),(enc_3 qv6)]) (getL_enc (enc:=enc_3) (x:=pv6) (y:=qv6) (r:=[])) hs hk))
        (fun hs hk=>(hX6 kinkv6 pv6 (w64 (qv6+(1:Int))) hs hk)) hs hk)⟩))
       (fun hs hk=>(hX5 kinkv6 (w64 (pv6+(1:Int))) hs hk)) hs hk)⟩)
  exact key _ kinkv6 pv6 qv6 hs hk
def s55_st5 (gates:(Sl Gate)) (tablev2:(Sl Mp)) (S5:Int→Int→((Sl Int)×Int×Int)) (kinkv5:Int) (pv5:Int):((Sl Int)×Int×Int) :=
  (cond (decide (pv5 ≤ (gates.get 0).High))
   (s55_at6 S5 gates tablev2 kinkv5 pv5 ((gates.get 1).Low))
   (s55_at7 gates tablev2 kinkv5 (⟨0,(fun _=>default)⟩:Sl Int)))
def p55_st5 (gates:(Sl Gate)) (tablev2:(Sl Mp)) (P5:Int→Int→Bool) (kinkv5:Int) (pv5:Int):Bool :=
  (decide ((0≤(0:Int)∧(0:Int) < (gates.len:Int))) &&
  (cond (decide (pv5 ≤ (gates.get 0).High))
   (decide ((0≤(1:Int)∧(1:Int) < (gates.len:Int))) &&
   (p55_at6 P5 gates tablev2 kinkv5 pv5 ((gates.get 1).Low)))
   (p55_at7 gates tablev2 kinkv5 (⟨0,(fun _=>default)⟩:Sl Int))))
def s55_lp5 (gates : (Sl Gate)) (tablev2 : (Sl Mp)) : Nat → Int → Int → ((Sl Int) × Int × Int)
  | 0=>fun _ _=>default
  | k+1=>s55_st5 gates tablev2 (s55_lp5 gates tablev2 k)
def p55_lp5 (gates : (Sl Gate)) (tablev2 : (Sl Mp)) : Nat → Int → Int → Bool
  | 0=>fun _ _=>false
  | k+1=>p55_st5 gates tablev2 (p55_lp5 gates tablev2 k)
def s55_at5 (gates:(Sl Gate)) (tablev2:(Sl Mp)) (kinkv5:Int) (pv5:Int):((Sl Int)×Int×Int):=s55_lp5 gates tablev2 Fuel kinkv5 pv5
def p55_at5 (gates:(Sl Gate)) (tablev2:(Sl Mp)) (kinkv5:Int) (pv5:Int):Bool:=p55_lp5 gates tablev2 Fuel kinkv5 pv5
theorem q55_at5 (K:List PA→Prop) (gates:(Sl Gate)) (tablev2:(Sl Mp)) (kinkv5:Int) (pv5:Int) (hs:p55_at5 gates tablev2 kinkv5 pv5=true) (hk:K (e55 (s55_at5 gates tablev2 kinkv5 pv5))):f55_at5 (Wk K) gates tablev2 kinkv5 pv5:=by
  refine f55_loop5 (Wk K) gates tablev2 kinkv5 pv5 ?_
  intro X5 hstep
  have key:∀ (k:Nat) (kinkv5:Int) (pv5:Int),p55_lp5 gates tablev2 k kinkv5 pv5=true→K (e55 (s55_lp5 gates tablev2 k kinkv5 pv5))→X5 (f55_g5 gates tablev2 kinkv5 pv5):=by
    intro k
    induction k with
    | zero=>intro kinkv5 pv5 hs;exact absurd hs Bool.false_ne_true
    | succ k ih =>
      intro kinkv5 pv5 hs hk
      refine hstep kinkv5 pv5 ?_
      have hs:p55_st5 gates tablev2 (p55_lp5 gates tablev2 k) kinkv5 pv5=true:=hs
      have hk:K (e55 (s55_st5 gates tablev2 (s55_lp5 gates tablev2 k) kinkv5 pv5)):=hk
      unfold p55_st5 at hs
      unfold s55_st5 at hk
      generalize s55_lp5 gates tablev2 k=S5 at hk ih
      generalize p55_lp5 gates tablev2 k=P5 at hs ih
      have hX5:=ih
      exact (andK hs fun hc hs => ⟨hc, (condB_go (K := fun r => K (e55 r))
       (fun hs hk=>(andK hs fun hc hs=>⟨hc,(q55_at6 K gates tablev2 X5 P5 S5 hX5 kinkv5 pv5 ((gates.get 1).Low) hs hk)⟩))
       (fun hs hk=>(q55_at7 K gates tablev2 kinkv5 (⟨0,(fun _=>default)⟩:Sl Int) (fun i=>enc_3 ((fun _=>default) i)) rfl hs hk)) hs hk)⟩)
  exact key _ kinkv5 pv5 hs hk
def s55_at4 (gates:(Sl Gate)) (tablev2:(Sl Mp)) (kinkv4:Int):((Sl Int)×Int×Int) :=
  (s55_at5 gates tablev2 kinkv4 ((gates.get 0).Low))
def p55_at4 (gates:(Sl Gate)) (tablev2:(Sl Mp)) (kinkv4:Int):Bool :=
  (decide ((0≤(0:Int)∧(0:Int) < (gates.len:Int))) &&
  (p55_at5 gates tablev2 kinkv4 ((gates.get 0).Low)))
theorem q55_at4 (K:List PA→Prop) (gates:(Sl Gate)) (tablev2:(Sl Mp)) (kinkv4:Int) (hs:p55_at4 gates tablev2 kinkv4=true) (hk:K (e55 (s55_at4 gates tablev2 kinkv4))):f55_at4 (Wk K) gates tablev2 kinkv4:=by
  refine ofEq (f55_eq4 (Wk K) gates tablev2 kinkv4) ?_
  unfold p55_at4 at hs
  unfold s55_at4 at hk
  exact (andK hs fun hc hs=>⟨hc,(q55_at5 K gates tablev2 kinkv4 ((gates.get 0).Low) hs hk)⟩)
def s55_ex3 (gates:(Sl Gate)) (tablev2:(Sl Mp)) (kinkv3:Int):((Sl Int)×Int×Int) :=
  (s55_at4 gates tablev2 kinkv3)
def p55_ex3 (gates:(Sl Gate)) (tablev2:(Sl Mp)) (kinkv3:Int):Bool :=
  (p55_at4 gates tablev2 kinkv3)
def s55_st3 (gates:(Sl Gate)) (tablev2:(Sl Mp)) (k24_0:Int) (k24_1:Int) (S3:Int→((Sl Int)×Int×Int)) (kinkv3:Int):((Sl Int)×Int×Int) :=
  (cond (decide (kinkv3 < (0:Int)))
   (S3 (nthO (((tablev2.get 0).F) [k24_0,k24_1]) 0))
   (cond (decide ((nthO (((tablev2.get 0).F) [k24_0, k24_1]) 0) < kinkv3))
    (S3 (nthO (((tablev2.get 0).F) [k24_0,k24_1]) 0))
    (S3 kinkv3)))
def p55_st3 (gates:(Sl Gate)) (tablev2:(Sl Mp)) (k24_0:Int) (k24_1:Int) (P3:Int→Bool) (kinkv3:Int):Bool :=
  (cond (decide (kinkv3 < (0:Int)))
   (P3 (nthO (((tablev2.get 0).F) [k24_0,k24_1]) 0))
   (cond (decide ((nthO (((tablev2.get 0).F) [k24_0, k24_1]) 0) < kinkv3))
    (P3 (nthO (((tablev2.get 0).F) [k24_0,k24_1]) 0))
    (P3 kinkv3)))
def s55_lp3 (gates : (Sl Gate)) (tablev2 : (Sl Mp)) : List (List Int) → Int → ((Sl Int) × Int × Int)
  | []=>s55_ex3 gates tablev2
  | y :: r=>s55_st3 gates tablev2 (y.getD 0 0) (y.getD 1 0) (s55_lp3 gates tablev2 r)
def p55_lp3 (gates : (Sl Gate)) (tablev2 : (Sl Mp)) : List (List Int) → Int → Bool
  | []=>p55_ex3 gates tablev2
  | y :: r=>p55_st3 gates tablev2 (y.getD 0 0) (y.getD 1 0) (p55_lp3 gates tablev2 r)
def mrI55_3 (_gates:Sl Gate) (t:Sl Mp) (ys:List (List Int)):Bool:=ys.all fun y=>decide (0≤nthO ((t.get 0).F y) 0)
theorem mrT55_3 (gates:Sl Gate) (t:Sl Mp):∀ (y:List Int) (r:List (List Int)),mrI55_3 gates t (y :: r)=true→mrI55_3 gates t r=true:=fun y r h=>by
  simp only [mrI55_3,List.all_cons,Bool.and_eq_true] at h ⊢;exact h.2
def kst (F:List Int→Option (List Int)) (k:Int) (y:List Int):Int:=if k < 0 then nthO (F y) 0 else if nthO (F y) 0 < k then nthO (F y) 0 else k
theorem kst_perm (F:List Int→Option (List Int)) {ys zs:List (List Int)} (h:∀ y∈ys,0≤nthO (F y) 0) (hp:ys.Perm zs) (k:Int):ys.foldl (kst F) k=zs.foldl (kst F) k:=by
  refine hp.foldl_eq' (fun x hx y hy z=>?_) k
  have h1:=h x hx
  have h2:=h y hy
  unfold kst
  repeat' split
  all_goals omega
theorem slp55_3 (gates : Sl Gate) (t : Sl Mp) : ∀ (ys : List (List Int)) (k : Int), (∀ y ∈ ys, y.length = 2) → s55_lp3 gates t ys k = s55_ex3 gates t (ys.foldl (kst (t.get 0).F) k)
  | [],k,_=>rfl
  | y :: r,k,h=>by
    have hy:=h y List.mem_cons_self
    match y,hy with
    | [a,b],_ =>
    have ih:=fun k=>slp55_3 gates t r k (fun z hz=>h z (List.mem_cons_of_mem _ hz))
    show s55_st3 gates t a b (s55_lp3 gates t r) k=_
    rw [List.foldl_cons]
    unfold s55_st3
    by_cases h1:k < 0
    · rw [decide_eq_true h1,cond_true,ih,show kst (t.get 0).F k [a,b]=nthO ((t.get 0).F [a,b]) 0 from if_pos h1]
    · rw [decide_eq_false h1, cond_false]
      by_cases h2:nthO ((t.get 0).F [a,b]) 0 < k
      · rw [decide_eq_true h2,cond_true,ih,show kst (t.get 0).F k [a,b]=nthO ((t.get 0).F [a,b]) 0 from (if_neg h1).trans (if_pos h2)]
      · rw [decide_eq_false h2,cond_false,ih,show kst (t.get 0).F k [a,b]=k from (if_neg h1).trans (if_neg h2)]
theorem plp55_3 (gates : Sl Gate) (t : Sl Mp) : ∀ (ys : List (List Int)) (k : Int), (∀ y ∈ ys, y.length = 2) → p55_lp3 gates t ys k = p55_ex3 gates t (ys.foldl (kst (t.get 0).F) k)
  | [],k,_=>rfl
  | y :: r,k,h=>by
    have hy:=h y List.mem_cons_self
    match y,hy with
    | [a,b],_ =>
    have ih:=fun k=>plp55_3 gates t r k (fun z hz=>h z (List.mem_cons_of_mem _ hz))
    show p55_st3 gates t a b (p55_lp3 gates t r) k=_
    rw [List.foldl_cons]
    unfold p55_st3
    by_cases h1:k < 0
    · rw [decide_eq_true h1,cond_true,ih,show kst (t.get 0).F k [a,b]=nthO ((t.get 0).F [a,b]) 0 from if_pos h1]
    · rw [decide_eq_false h1, cond_false]
      by_cases h2:nthO ((t.get 0).F [a,b]) 0 < k
      · rw [decide_eq_true h2,cond_true,ih,show kst (t.get 0).F k [a,b]=nthO ((t.get 0).F [a,b]) 0 from (if_neg h1).trans (if_pos h2)]
      · rw [decide_eq_false h2,cond_false,ih,show kst (t.get 0).F k [a,b]=k from (if_neg h1).trans (if_neg h2)]
theorem mrO55_3 (gates : Sl Gate) (t : Sl Mp) (ys zs : List (List Int)) (hl : ∀ y ∈ ys, y.length = 2) (h : mrI55_3 gates t ys = true) (hp : ys.Perm zs) :
    mrI55_3 gates t zs=true∧s55_lp3 gates t ys=s55_lp3 gates t zs∧p55_lp3 gates t ys=p55_lp3 gates t zs:=by
  simp only [mrI55_3,List.all_eq_true,decide_eq_true_eq] at h ⊢
  have hl2:∀ y∈zs,y.length=2:=fun y hy=>hl y (hp.mem_iff.2 hy)
  refine ⟨fun y hy=>h y (hp.mem_iff.2 hy),funext fun k=>?_,funext fun k=>?_⟩
  · rw [slp55_3 gates t ys k hl,slp55_3 gates t zs k hl2,kst_perm _ h hp]
  · rw [plp55_3 gates t ys k hl,plp55_3 gates t zs k hl2,kst_perm _ h hp]
def s55_at3 (gates:(Sl Gate)) (tablev2:(Sl Mp)) (kinkv3:Int):((Sl Int)×Int×Int):=s55_lp3 gates tablev2 (keys55 gates) kinkv3
def p55_at3 (gates:(Sl Gate)) (tablev2:(Sl Mp)) (kinkv3:Int):Bool:=keysB 2 ((tablev2.get 0).n) ((tablev2.get 0).F) (keys55 gates) && mrI55_3 gates tablev2 (keys55 gates) && p55_lp3 gates tablev2 (keys55 gates) kinkv3
theorem q55_at3 (K:List PA→Prop) (gates:(Sl Gate)) (tablev2:(Sl Mp)) (kinkv3:Int) (hs:p55_at3 gates tablev2 kinkv3=true) (hk:K (e55 (s55_at3 gates tablev2 kinkv3))):f55_at3 (Wk K) gates tablev2 [] kinkv3:=by
  unfold p55_at3 at hs
  rw [Bool.and_eq_true,Bool.and_eq_true] at hs
  obtain ⟨⟨hkeys,hI⟩,hs⟩:=hs
  unfold s55_at3 at hk
  generalize hys:keys55 gates=ys0 at hkeys hI hs hk
  refine f55_loop3 (Wk K) gates tablev2 [] kinkv3 ?_
  intro X3 hstep
  have key:∀ (N:Nat) (ys:List (List Int)) (seen:List (List Int)) (kinkv3:Int),ys.length=N→(FinM 2 ((tablev2.get 0).n) ((tablev2.get 0).F)→RemL 2 ((tablev2.get 0).F) seen ys)→mrI55_3 gates tablev2 ys=true→p55_lp3 gates tablev2 ys kinkv3=true→K (e55 (s55_lp3 gates tablev2 ys kinkv3))→X3 (f55_g3 gates tablev2 seen kinkv3):=by
    intro N
    induction N with
    | zero =>
      intro ys seen kinkv3 hN hrem hI hs hk
      obtain rfl:=List.eq_nil_of_length_eq_zero hN
      refine hstep seen kinkv3 ?_
      intro hfin
      have hrem:=hrem hfin
      refine ⟨fun _=>?_,fun k24_0 k24_1 hF hns=>absurd (hrem.2.2 [k24_0,k24_1] rfl hF hns) (by simp)⟩
      have hs:p55_ex3 gates tablev2 kinkv3=true:=hs
      have hk:K (e55 (s55_ex3 gates tablev2 kinkv3)):=hk
      unfold p55_ex3 at hs
      unfold s55_ex3 at hk
      exact (q55_at4 K gates tablev2 kinkv3 hs hk)
    | succ N ih =>
      intro ys seen kinkv3 hN hrem hI hs hk
      refine hstep seen kinkv3 ?_
      intro hfin
      have hrem:=hrem hfin
      refine ⟨fun hend=>?_,fun k24_0 k24_1 hF hns=>?_⟩
      · exact absurd (rem_end hrem hend) (fun e=>by rw [e] at hN;simp at hN)
      · obtain ⟨hperm, hrem2, hlen⟩ := rem_pick hrem (c := [k24_0, k24_1]) rfl hF hns
        obtain ⟨hI2,e1,e2⟩:=mrO55_3 gates tablev2 ys _ (fun y hy=>(hrem.2.1 y hy).1) hI hperm
        have hI3:=mrT55_3 gates tablev2 _ _ hI2
        rw [e2] at hs
        rw [e1] at hk
        have hs:p55_st3 gates tablev2 k24_0 k24_1 (p55_lp3 gates tablev2 (ys.erase [k24_0,k24_1])) kinkv3=true:=hs
        have hk:K (e55 (s55_st3 gates tablev2 k24_0 k24_1 (s55_lp3 gates tablev2 (ys.erase [k24_0,k24_1])) kinkv3)):=hk
        have ih:=fun (kinkv3:Int)=>ih (ys.erase [k24_0,k24_1]) ([k24_0,k24_1] :: seen) kinkv3 (by omega) (fun _=>hrem2) hI3
        unfold p55_st3 at hs
        unfold s55_st3 at hk
        generalize s55_lp3 gates tablev2 (ys.erase [k24_0,k24_1])=S3 at hk ih
        generalize p55_lp3 gates tablev2 (ys.erase [k24_0,k24_1])=P3 at hs ih
        have hX3:=ih
        exact (condB_go (K := fun r => K (e55 r))
         (fun hs hk=>(hX3 (nthO (((tablev2.get 0).F) [k24_0,k24_1]) 0) hs hk))
         (fun hs hk => (condB_go (K := fun r => K (e55 r))
          (fun hs hk=>(hX3 (nthO (((tablev2.get 0).F) [k24_0,k24_1]) 0) hs hk))
          (fun hs hk=>(hX3 kinkv3 hs hk)) hs hk)) hs hk)
  exact key _ ys0 [] kinkv3 rfl (fun hf=>rem_start hkeys hf) hI hs hk
def s55_at2 (gates:(Sl Gate)) (tablev2:(Sl Mp)):((Sl Int)×Int×Int) :=
  (s55_at3 gates tablev2 (-1:Int))
def p55_at2 (gates:(Sl Gate)) (tablev2:(Sl Mp)):Bool :=
  (decide ((0≤(0:Int)∧(0:Int) < (tablev2.len:Int))) &&
  (p55_at3 gates tablev2 (-1:Int)))
theorem q55_at2 (K:List PA→Prop) (gates:(Sl Gate)) (tablev2:(Sl Mp)) (tablev2_g:Nat→List PV) (tablev2_h:tablev2_g=fun i=>enc_129 (tablev2.get i)) (hs:p55_at2 gates tablev2=true) (hk:K (e55 (s55_at2 gates tablev2))):f55_at2 (Wk K) gates tablev2.len tablev2_g:=by
  subst tablev2_h
  refine ofEq (f55_eq2 (Wk K) gates tablev2) ?_
  unfold p55_at2 at hs
  unfold s55_at2 at hk
  exact (andK hs fun hc hs=>⟨hc,(q55_at3 K gates tablev2 (-1:Int) hs hk)⟩)
def s55_at1 (gates:(Sl Gate)):((Sl Int)×Int×Int) :=
  (s55_at2 gates (s93 gates))
def p55_at1 (gates:(Sl Gate)):Bool :=
  (decide ((p93 gates=true)) &&
  (p55_at2 gates (s93 gates)))
theorem q55_at1 (K:List PA→Prop) (gates:(Sl Gate)) (hs:p55_at1 gates=true) (hk:K (e55 (s55_at1 gates))):f55_at1 (Wk K) gates:=by
  refine ofEq (f55_eq1 (Wk K) gates) ?_
  unfold p55_at1 at hs
  unfold s55_at1 at hk
  exact (andK hs fun hc hs=>⟨⟨isE,hc⟩,(q55_at2 K gates (s93 gates) (fun i=>enc_129 ((s93 gates).get i)) rfl hs hk)⟩)
def s55_at0 (gates:(Sl Gate)) (t18v0:Bool):((Sl Int)×Int×Int) :=
  (cond t18v0
   ((⟨0,fun _=>default⟩:(Sl Int)),(0:Int),(2:Int))
   (s55_at1 gates))
def p55_at0 (gates:(Sl Gate)) (t18v0:Bool):Bool :=
  (cond t18v0
   true
   (p55_at1 gates))
theorem q55_at0 (K:List PA→Prop) (gates:(Sl Gate)) (t18v0:Bool) (hs:p55_at0 gates t18v0=true) (hk:K (e55 (s55_at0 gates t18v0))):f55_at0 (Wk K) gates t18v0:=by
  refine ofEq (f55_eq0 (Wk K) gates t18v0) ?_
  unfold p55_at0 at hs
  unfold s55_at0 at hk
  exact (condB_go (K := fun r => K (e55 r))
   (fun hs hk=>(wk hk (rl_c (.one (.nil _ _)) (rl_c (.one (.rfl _)) (rl_c (.one (.rfl _)) rl_n)))))
   (fun hs hk=>(q55_at1 K gates hs hk)) hs hk)
def s55 (gates:(Sl Gate)):((Sl Int)×Int×Int) :=
  (s55_at0 gates (!(s92 gates)))
def p55 (gates:(Sl Gate)):Bool :=
  (decide ((p92 gates=true)) &&
  (p55_at0 gates (!(s92 gates))))
theorem q55 (gates:(Sl Gate)) (K:List PA→Prop) (hs:p55 gates=true) (hk:K (e55 (s55 gates))):vcFun Try.prog G55 ann55 55 [.one (.sl gates.len 3 (fun i=>enc_55 (gates.get i)))] (Wk K):=by
  refine ofEq (f55_top gates (Wk K)) ?_
  unfold p55 at hs
  unfold s55 at hk
  exact (andK hs fun hc hs=>⟨⟨isE,hc⟩,(q55_at0 K gates (!(s92 gates)) hs hk)⟩)
def ctr55 : List PA → COut
  | [.one (.sl a0_n a0_s a0_g)]=>.det (IsE enc_55 3 a0_s a0_g∧p55 (⟨a0_n,decF_55 a0_g⟩:(Sl Gate))=true) [.one (.sl (((s55 (⟨a0_n,decF_55 a0_g⟩:(Sl Gate))).1).len) 1 (fun i=>enc_3 (((s55 (⟨a0_n,decF_55 a0_g⟩:(Sl Gate))).1).get i))),.one (.int .i64 ((s55 (⟨a0_n,decF_55 a0_g⟩:(Sl Gate))).2.1)),.one (.int .i64 ((s55 (⟨a0_n,decF_55 a0_g⟩:(Sl Gate))).2.2))]
  | _=>.no
theorem call55:Callable Try.prog 55:=⟨_,rfl,rfl,by kernel_rfl⟩
theorem ok55:Ok Try.prog 55 ctr55:=ok_tabW okT55 call55 fun args K h=>by
  unfold ctr55 at h
  split at h
  · rename_i a0_n a0_s a0_g
    obtain ⟨⟨⟨rfl,a0_f,rfl⟩,hs⟩,hk⟩:=h
    try rw [decF_enc_55 a0_f] at hs
    try rw [decF_enc_55 a0_f] at hk
    exact ⟨_,rl_rfl pa_rfl _,(fun _ _=>[]),(fun _=>false),ann55,q55 (⟨a0_n,a0_f⟩:(Sl Gate)) K hs hk⟩
  · exact h.elim
abbrev T62:Tabs:=Tabs.nil
theorem okT62:TabsOk Try.prog T62:=TabsOk.nil
abbrev G62:Ctrs:=csm T62 (fun _ _=>[]) (fun _=>false)
def ann62:Ann:=⟨5,[(0,⟨[],[],[],[],[],[],[]⟩),(1,⟨[0],[4],[],[],[],[],[]⟩)],
  [],
  [],
  [],[]⟩
theorem f62_top (K : List PA → Prop) :
  vcFun Try.prog G62 ann62 62 [] K =
  (K [.one (.sl 3 3 (getL [(enc_55 (⟨(0:Int),(0:Int),(10:Int)⟩:Gate)),(enc_55 (⟨(100:Int),(20:Int),(30:Int)⟩:Gate)),(enc_55 (⟨(200:Int),(30:Int),(60:Int)⟩:Gate))]))]):=by kernel_rfl
abbrev e62 (r:(Sl Gate)):List PA:=[.one (.sl r.len 3 (fun i=>enc_55 (r.get i)))]
def s62:(Sl Gate) :=
  (⟨3,(getT (⟨(0:Int),(0:Int),(10:Int)⟩:Gate) [(⟨(0:Int),(0:Int),(10:Int)⟩:Gate),(⟨(100:Int),(20:Int),(30:Int)⟩:Gate),(⟨(200:Int),(30:Int),(60:Int)⟩:Gate)])⟩:(Sl Gate))
theorem q62 (K:List PA→Prop) (hk:K (e62 (s62))):vcFun Try.prog G62 ann62 62 [] K:=by
  refine ofEq (f62_top K) ?_
  unfold s62 at hk
  exact (Eq.mpr (congrArg K (congrArg (fun (g_:Nat→List PV)=>([.one (.sl 3 3 g_)]:List PA)) (getL_enc (enc:=enc_55) (x:=(⟨(0:Int),(0:Int),(10:Int)⟩:Gate)) (y:=(⟨(100:Int),(20:Int),(30:Int)⟩:Gate)) (r:=[(⟨(200:Int),(30:Int),(60:Int)⟩:Gate)])))) hk)
def ctr62 : List PA → COut
  | []=>.tot [.one (.sl ((s62).len) 3 (fun i=>enc_55 ((s62).get i)))]
  | _=>.no
theorem call62:Callable Try.prog 62:=⟨_,rfl,rfl,by kernel_rfl⟩
theorem ok62:Ok Try.prog 62 ctr62:=ok_tab okT62 call62 fun args K h=>by
  unfold ctr62 at h
  split at h
  · have hk := h
    exact ⟨(fun _ _=>[]),(fun _=>false),ann62,q62 K hk⟩
  · exact h.elim
end Go.Proofs
namespace Go.Proofs
open Go Go.Pm
set_option maxRecDepth 100000
set_option linter.unusedVariables false
attribute [local irreducible] Go.Pm.vcFun Go.Pm.vc Go.Pm.vcIter
abbrev T63:Tabs:=Tabs.nil
theorem okT63:TabsOk Try.prog T63:=TabsOk.nil
abbrev G63:Ctrs:=csm T63 (fun _ _=>[]) (fun _=>false)
def ann63:Ann:=⟨5,[(0,⟨[],[],[],[],[],[],[]⟩),(1,⟨[0],[4],[],[],[],[],[]⟩)],
  [],
  [],
  [],[]⟩
theorem f63_top (K : List PA → Prop) :
  vcFun Try.prog G63 ann63 63 [] K =
  (K [.one (.sl 3 3 (getL [(enc_55 (⟨(0:Int),(0:Int),(10:Int)⟩:Gate)),(enc_55 (⟨(100:Int),(20:Int),(30:Int)⟩:Gate)),(enc_55 (⟨(200:Int),(0:Int),(9:Int)⟩:Gate))]))]):=by kernel_rfl
abbrev e63 (r:(Sl Gate)):List PA:=[.one (.sl r.len 3 (fun i=>enc_55 (r.get i)))]
def s63:(Sl Gate) :=
  (⟨3,(getT (⟨(0:Int),(0:Int),(10:Int)⟩:Gate) [(⟨(0:Int),(0:Int),(10:Int)⟩:Gate),(⟨(100:Int),(20:Int),(30:Int)⟩:Gate),(⟨(200:Int),(0:Int),(9:Int)⟩:Gate)])⟩:(Sl Gate))
theorem q63 (K:List PA→Prop) (hk:K (e63 (s63))):vcFun Try.prog G63 ann63 63 [] K:=by
  refine ofEq (f63_top K) ?_
  unfold s63 at hk
  exact (Eq.mpr (congrArg K (congrArg (fun (g_:Nat→List PV)=>([.one (.sl 3 3 g_)]:List PA)) (getL_enc (enc:=enc_55) (x:=(⟨(0:Int),(0:Int),(10:Int)⟩:Gate)) (y:=(⟨(100:Int),(20:Int),(30:Int)⟩:Gate)) (r:=[(⟨(200:Int),(0:Int),(9:Int)⟩:Gate)])))) hk)
def ctr63 : List PA → COut
  | []=>.tot [.one (.sl ((s63).len) 3 (fun i=>enc_55 ((s63).get i)))]
  | _=>.no
theorem call63:Callable Try.prog 63:=⟨_,rfl,rfl,by kernel_rfl⟩
theorem ok63:Ok Try.prog 63 ctr63:=ok_tab okT63 call63 fun args K h=>by
  unfold ctr63 at h
  split at h
  · have hk := h
    exact ⟨(fun _ _=>[]),(fun _=>false),ann63,q63 K hk⟩
  · exact h.elim
abbrev T18:Tabs:=((((((((((Tabs.nil.addF 19 ctr19).addF 30 ctr30).addF 31 ctr31).addF 34 ctr34).addF 38 ctr38).addF 39 ctr39).addF 40 ctr40).addF 55 ctr55).addF 62 ctr62).addF 63 ctr63)
theorem okT18:TabsOk Try.prog T18:=((((((((((TabsOk.nil.addF ok19).addF ok30).addF ok31).addF ok34).addF ok38).addF ok39).addF ok40).addF ok55).addF ok62).addF ok63)
abbrev G18:Ctrs:=csm T18 (fun _ _=>[]) (fun _=>false)
def ann18:Ann:=⟨125,[(0,⟨[],[],[],[],[],[],[]⟩),(1,⟨[1,2],[],[],[],[],[],[]⟩),(2,⟨[1,2,3,4,5],[3,4],[],[],[],[],[]⟩),(3,⟨[1,2,3,4,5,6,7],[3,4],[],[],[],[],[]⟩),(4,⟨[1,2,3,4,5,6,7,8,9,10,11],[3,4,9,10],[],[],[],[],[]⟩),(5,⟨[1,2,3,4,5,6,7,8,9,10,11,12,13,14],[3,4,9,10],[],[],[],[],[]⟩),(6,⟨[1,3,4,6,9,10,12,76],[3,4,9,10],[],[],[],[],[]⟩),(7,⟨[0],[],[],[],[],[],[]⟩),(8,⟨[1,3,4,6,9,10,12,15],[3,4,9,10,89],[],[],[],[],[]⟩),(9,⟨[0],[],[],[],[],[],[]⟩)],
  [],
  [(2,⟨[1,2],[],[],[],[],[],[]⟩),(3,⟨[1,2,3,4,5],[3,4],[],[],[],[],[]⟩),(4,⟨[1,2,3,4,5,6,7],[3,4],[],[],[],[],[]⟩),(5,⟨[1,2,3,4,5,6,7,8,9,10,11],[3,4,9,10],[],[],[],[],[]⟩),(6,⟨[1,2,3,4,5,6,7,8,9,10,11,12,13,14],[3,4,9,10],[],[],[],[],[]⟩),(8,⟨[1,3,4,6,9,10,12],[3,4,9,10],[],[],[],[],[]⟩),(9,⟨[1,3,4,6,9,10,12,15],[3,4,9,10,89],[],[],[],[],[]⟩)],
  [],[]⟩
def f18_g0 (cv0_n:Nat) (cv0_g:Nat→List PV) (ev0:Int):St:=⟨[(1,.one (.c (.p (.sl cv0_n 4 cv0_g)))),(2,.one (.c (.p (.int .i64 ev0))))],[],[]⟩
def f18_at0 (K:List PA→Prop) (cv0_n:Nat) (cv0_g:Nat→List PV) (ev0:Int):Prop:=vc Try.prog G18 ann18 (cdF Try.f18 [1,1]) (bodyK Try.prog Try.f18 K) (f18_g0 cv0_n cv0_g ev0)
def f18_g1 (cv0:(Sl Line)) (ev0:Int) (fv1:Int) (p_0v1:Int) (p_1v1:Int) (q_0v1:Int) (q_1v1:Int):St:=⟨[(1,.one (.c (.p (.sl cv0.len 4 (fun i=>enc_37 (cv0.get i)))))),(2,.one (.c (.p (.int .i64 ev0)))),(3,.one (.c (.ptr 3 0))),(4,.one (.c (.ptr 4 0))),(5,.one (.c (.p (.int .i64 fv1))))],[(3,.box 25 [.p (.int .i64 p_0v1),.p (.int .i64 p_1v1)]),(4,.box 25 [.p (.int .i64 q_0v1),.p (.int .i64 q_1v1)])],[]⟩
def f18_at1 (K:List PA→Prop) (cv0:(Sl Line)) (ev0:Int) (fv1:Int) (p_0v1:Int) (p_1v1:Int) (q_0v1:Int) (q_1v1:Int):Prop:=vc Try.prog G18 ann18 (cdF Try.f18 [1,1,1]) (bodyK Try.prog Try.f18 K) (f18_g1 cv0 ev0 fv1 p_0v1 p_1v1 q_0v1 q_1v1)
def f18_g2 (cv0:(Sl Line)) (ev0:Int) (fv1:Int) (p_0v1:Int) (p_1v1:Int) (q_0v1:Int) (q_1v1:Int) (sv2_n:Nat) (sv2_g:Nat→List PV) (gv2:Int):St:=⟨[(1,.one (.c (.p (.sl cv0.len 4 (fun i=>enc_37 (cv0.get i)))))),(2,.one (.c (.p (.int .i64 ev0)))),(3,.one (.c (.ptr 3 0))),(4,.one (.c (.ptr 4 0))),(5,.one (.c (.p (.int .i64 fv1)))),(6,.one (.c (.p (.sl sv2_n 1 sv2_g)))),(7,.one (.c (.p (.int .i64 gv2))))],[(3,.box 25 [.p (.int .i64 p_0v1),.p (.int .i64 p_1v1)]),(4,.box 25 [.p (.int .i64 q_0v1),.p (.int .i64 q_1v1)])],[]⟩
def f18_at2 (K:List PA→Prop) (cv0:(Sl Line)) (ev0:Int) (fv1:Int) (p_0v1:Int) (p_1v1:Int) (q_0v1:Int) (q_1v1:Int) (sv2_n:Nat) (sv2_g:Nat→List PV) (gv2:Int):Prop:=vc Try.prog G18 ann18 (cdF Try.f18 [1,1,1,1]) (bodyK Try.prog Try.f18 K) (f18_g2 cv0 ev0 fv1 p_0v1 p_1v1 q_0v1 q_1v1 sv2_n sv2_g gv2)
def f18_g3 (cv0:(Sl Line)) (ev0:Int) (fv1:Int) (p_0v1:Int) (p_1v1:Int) (q_0v1:Int) (q_1v1:Int) (gv2:Int) (sv3_n:Nat) (sv3_g:Nat→List PV) (zv3:Int) (hv3:Int) (r_0v3:Int) (r_1v3:Int) (t_0v3:Int) (t_1v3:Int):St:=⟨[(1,.one (.c (.p (.sl cv0.len 4 (fun i=>enc_37 (cv0.get i)))))),(2,.one (.c (.p (.int .i64 ev0)))),(3,.one (.c (.ptr 3 0))),(4,.one (.c (.ptr 4 0))),(5,.one (.c (.p (.int .i64 fv1)))),(6,.one (.c (.p (.sl sv3_n 1 sv3_g)))),(7,.one (.c (.p (.int .i64 gv2)))),(8,.one (.c (.p (.int .i64 zv3)))),(9,.one (.c (.ptr 9 0))),(10,.one (.c (.ptr 10 0))),(11,.one (.c (.p (.int .i64 hv3))))],[(3,.box 25 [.p (.int .i64 p_0v1),.p (.int .i64 p_1v1)]),(4,.box 25 [.p (.int .i64 q_0v1),.p (.int .i64 q_1v1)]),(9,.box 25 [.p (.int .i64 r_0v3),.p (.int .i64 r_1v3)]),(10,.box 25 [.p (.int .i64 t_0v3),.p (.int .i64 t_1v3)])],[]⟩
def f18_at3 (K:List PA→Prop) (cv0:(Sl Line)) (ev0:Int) (fv1:Int) (p_0v1:Int) (p_1v1:Int) (q_0v1:Int) (q_1v1:Int) (gv2:Int) (sv3_n:Nat) (sv3_g:Nat→List PV) (zv3:Int) (hv3:Int) (r_0v3:Int) (r_1v3:Int) (t_0v3:Int) (t_1v3:Int):Prop:=vc Try.prog G18 ann18 (cdF Try.f18 [1,1,1,1,1]) (bodyK Try.prog Try.f18 K) (f18_g3 cv0 ev0 fv1 p_0v1 p_1v1 q_0v1 q_1v1 gv2 sv3_n sv3_g zv3 hv3 r_0v3 r_1v3 t_0v3 t_1v3)
def f18_g4 (cv0:(Sl Line)) (ev0:Int) (fv1:Int) (p_0v1:Int) (p_1v1:Int) (q_0v1:Int) (q_1v1:Int) (gv2:Int) (zv3:Int) (hv3:Int) (r_0v3:Int) (r_1v3:Int) (t_0v3:Int) (t_1v3:Int) (sv4_n:Nat) (sv4_g:Nat→List PV) (lv4_n:Nat) (lv4_g:Nat→List PV) (kv4:Int) (iv4:Int):St:=⟨[(1,.one (.c (.p (.sl cv0.len 4 (fun i=>enc_37 (cv0.get i)))))),(2,.one (.c (.p (.int .i64 ev0)))),(3,.one (.c (.ptr 3 0))),(4,.one (.c (.ptr 4 0))),(5,.one (.c (.p (.int .i64 fv1)))),(6,.one (.c (.p (.sl sv4_n 1 sv4_g)))),(7,.one (.c (.p (.int .i64 gv2)))),(8,.one (.c (.p (.int .i64 zv3)))),(9,.one (.c (.ptr 9 0))),(10,.one (.c (.ptr 10 0))),(11,.one (.c (.p (.int .i64 hv3)))),(12,.one (.c (.p (.sl lv4_n 1 lv4_g)))),(13,.one (.c (.p (.int .i64 kv4)))),(14,.one (.c (.p (.int .i64 iv4))))],[(3,.box 25 [.p (.int .i64 p_0v1),.p (.int .i64 p_1v1)]),(4,.box 25 [.p (.int .i64 q_0v1),.p (.int .i64 q_1v1)]),(9,.box 25 [.p (.int .i64 r_0v3),.p (.int .i64 r_1v3)]),(10,.box 25 [.p (.int .i64 t_0v3),.p (.int .i64 t_1v3)])],[]⟩
def f18_at4 (K:List PA→Prop) (cv0:(Sl Line)) (ev0:Int) (fv1:Int) (p_0v1:Int) (p_1v1:Int) (q_0v1:Int) (q_1v1:Int) (gv2:Int) (zv3:Int) (hv3:Int) (r_0v3:Int) (r_1v3:Int) (t_0v3:Int) (t_1v3:Int) (sv4_n:Nat) (sv4_g:Nat→List PV) (lv4_n:Nat) (lv4_g:Nat→List PV) (kv4:Int) (iv4:Int):Prop:=vc Try.prog G18 ann18 (cdF Try.f18 [1,1,1,1,1,1]) (bodyK Try.prog Try.f18 K) (f18_g4 cv0 ev0 fv1 p_0v1 p_1v1 q_0v1 q_1v1 gv2 zv3 hv3 r_0v3 r_1v3 t_0v3 t_1v3 sv4_n sv4_g lv4_n lv4_g kv4 iv4)
def f18_g5 (cv0:(Sl Line)) (p_0v1:Int) (p_1v1:Int) (q_0v1:Int) (q_1v1:Int) (r_0v3:Int) (r_1v3:Int) (t_0v3:Int) (t_1v3:Int) (lv4:(Sl Int)) (sv5_n:Nat) (sv5_g:Nat→List PV):St:=⟨[(1,.one (.c (.p (.sl cv0.len 4 (fun i=>enc_37 (cv0.get i)))))),(3,.one (.c (.ptr 3 0))),(4,.one (.c (.ptr 4 0))),(6,.one (.c (.p (.sl sv5_n 1 sv5_g)))),(9,.one (.c (.ptr 9 0))),(10,.one (.c (.ptr 10 0))),(12,.one (.c (.p (.sl lv4.len 1 (fun i=>enc_3 (lv4.get i))))))],[(3,.box 25 [.p (.int .i64 p_0v1),.p (.int .i64 p_1v1)]),(4,.box 25 [.p (.int .i64 q_0v1),.p (.int .i64 q_1v1)]),(9,.box 25 [.p (.int .i64 r_0v3),.p (.int .i64 r_1v3)]),(10,.box 25 [.p (.int .i64 t_0v3),.p (.int .i64 t_1v3)])],[]⟩
def f18_at5 (K:List PA→Prop) (cv0:(Sl Line)) (p_0v1:Int) (p_1v1:Int) (q_0v1:Int) (q_1v1:Int) (r_0v3:Int) (r_1v3:Int) (t_0v3:Int) (t_1v3:Int) (lv4:(Sl Int)) (sv5_n:Nat) (sv5_g:Nat→List PV):Prop:=vc Try.prog G18 ann18 (cdF Try.f18 [1,1,1,1,1,1,1]) (bodyK Try.prog Try.f18 K) (f18_g5 cv0 p_0v1 p_1v1 q_0v1 q_1v1 r_0v3 r_1v3 t_0v3 t_1v3 lv4 sv5_n sv5_g)
def f18_g6 (cv0:(Sl Line)) (p_0v1:Int) (p_1v1:Int) (q_0v1:Int) (q_1v1:Int) (r_0v3:Int) (r_1v3:Int) (t_0v3:Int) (t_1v3:Int) (lv4:(Sl Int)) (sv6_n:Nat) (sv6_g:Nat→List PV) (v89v6_n:Nat) (v89v6_g:Nat→List PV):St:=⟨[(1,.one (.c (.p (.sl cv0.len 4 (fun i=>enc_37 (cv0.get i)))))),(3,.one (.c (.ptr 3 0))),(4,.one (.c (.ptr 4 0))),(6,.one (.c (.p (.sl sv6_n 1 sv6_g)))),(9,.one (.c (.ptr 9 0))),(10,.one (.c (.ptr 10 0))),(12,.one (.c (.p (.sl lv4.len 1 (fun i=>enc_3 (lv4.get i)))))),(15,.one (.c (.vec 89)))],[(3,.box 25 [.p (.int .i64 p_0v1),.p (.int .i64 p_1v1)]),(4,.box 25 [.p (.int .i64 q_0v1),.p (.int .i64 q_1v1)]),(9,.box 25 [.p (.int .i64 r_0v3),.p (.int .i64 r_1v3)]),(10,.box 25 [.p (.int .i64 t_0v3),.p (.int .i64 t_1v3)]),(89,.vec 37 4 32 v89v6_n v89v6_g)],[]⟩
def f18_at6 (K:List PA→Prop) (cv0:(Sl Line)) (p_0v1:Int) (p_1v1:Int) (q_0v1:Int) (q_1v1:Int) (r_0v3:Int) (r_1v3:Int) (t_0v3:Int) (t_1v3:Int) (lv4:(Sl Int)) (sv6_n:Nat) (sv6_g:Nat→List PV) (v89v6_n:Nat) (v89v6_g:Nat→List PV):Prop:=vc Try.prog G18 ann18 (cdF Try.f18 [1,1,1,1,1,1,1,1]) (bodyK Try.prog Try.f18 K) (f18_g6 cv0 p_0v1 p_1v1 q_0v1 q_1v1 r_0v3 r_1v3 t_0v3 t_1v3 lv4 sv6_n sv6_g v89v6_n v89v6_g)
theorem f18_top (K : List PA → Prop) :
  vcFun Try.prog G18 ann18 18 [] K =
  ((IsE enc_55 3 3 (fun i=>enc_55 (s62.get i))∧(p31 s62=true)) ∧
  (f18_at0 K (((s31 s62).1).len) (fun i=>enc_37 (((s31 s62).1).get i)) ((s31 s62).2))):=by kernel_rfl
theorem f18_eq0 (K : List PA → Prop) (cv0 : (Sl Line)) (ev0 : Int) :
  f18_at0 K cv0.len (fun i=>enc_37 (cv0.get i)) ev0 =
  ((IsE enc_55 3 3 (fun i=>enc_55 (s62.get i))∧(p30 s62 (300:Int)=true)) ∧
  (f18_at1 K cv0 ev0 ((s30 s62 (300:Int)).2.2) (((s30 s62 (300:Int)).1).Num) (((s30 s62 (300:Int)).1).Den) (((s30 s62 (300:Int)).2.1).Num) (((s30 s62 (300:Int)).2.1).Den))):=by kernel_rfl
theorem f18_eq1 (K : List PA → Prop) (cv0 : (Sl Line)) (ev0 : Int) (fv1 : Int) (p_0v1 : Int) (p_1v1 : Int) (q_0v1 : Int) (q_1v1 : Int) :
  f18_at1 K cv0 ev0 fv1 p_0v1 p_1v1 q_0v1 q_1v1 =
  ((IsE enc_55 3 3 (fun i=>enc_55 (s63.get i))∧(p38 s63=true)) ∧
  (f18_at2 K cv0 ev0 fv1 p_0v1 p_1v1 q_0v1 q_1v1 (((s38 s63).1).len) (fun i=>enc_3 (((s38 s63).1).get i)) ((s38 s63).2))):=by kernel_rfl
theorem f18_eq2 (K : List PA → Prop) (cv0 : (Sl Line)) (ev0 : Int) (fv1 : Int) (p_0v1 : Int) (p_1v1 : Int) (q_0v1 : Int) (q_1v1 : Int) (sv2 : (Sl Int)) (gv2 : Int) :
  f18_at2 K cv0 ev0 fv1 p_0v1 p_1v1 q_0v1 q_1v1 sv2.len (fun i=>enc_3 (sv2.get i)) gv2 =
  ((IsE enc_55 3 3 (fun i=>enc_55 (s62.get i))∧IsE enc_55 3 3 (getL [(enc_55 (⟨(0:Int),(100:Int),(110:Int)⟩:Gate)),(enc_55 (⟨(200:Int),(40:Int),(50:Int)⟩:Gate))])∧(p19 s62 (⟨2,decF_55 (getL [(enc_55 (⟨(0:Int),(100:Int),(110:Int)⟩:Gate)),(enc_55 (⟨(200:Int),(40:Int),(50:Int)⟩:Gate))])⟩:(Sl Gate)) (0:Int) (300:Int)=true)) ∧
  (f18_at3 K cv0 ev0 fv1 p_0v1 p_1v1 q_0v1 q_1v1 gv2 sv2.len (fun i=>enc_3 (sv2.get i)) ((s19 s62 (⟨2,decF_55 (getL [(enc_55 (⟨(0:Int),(100:Int),(110:Int)⟩:Gate)),(enc_55 (⟨(200:Int),(40:Int),(50:Int)⟩:Gate))])⟩:(Sl Gate)) (0:Int) (300:Int)).1) ((s19 s62 (⟨2,decF_55 (getL [(enc_55 (⟨(0:Int),(100:Int),(110:Int)⟩:Gate)),(enc_55 (⟨(200:Int),(40:Int),(50:Int)⟩:Gate))])⟩:(Sl Gate)) (0:Int) (300:Int)).2.2.2) (((s19 s62 (⟨2,decF_55 (getL [(enc_55 (⟨(0:Int),(100:Int),(110:Int)⟩:Gate)),(enc_55 (⟨(200:Int),(40:Int),(50:Int)⟩:Gate))])⟩:(Sl Gate)) (0:Int) (300:Int)).2.1).Num) (((s19 s62 (⟨2,decF_55 (getL [(enc_55 (⟨(0:Int),(100:Int),(110:Int)⟩:Gate)),(enc_55 (⟨(200:Int),(40:Int),(50:Int)⟩:Gate))])⟩:(Sl Gate)) (0:Int) (300:Int)).2.1).Den) (((s19 s62 (⟨2,decF_55 (getL [(enc_55 (⟨(0:Int),(100:Int),(110:Int)⟩:Gate)),(enc_55 (⟨(200:Int),(40:Int),(50:Int)⟩:Gate))])⟩:(Sl Gate)) (0:Int) (300:Int)).2.2.1).Num) (((s19 s62 (⟨2,decF_55 (getL [(enc_55 (⟨(0:Int),(100:Int),(110:Int)⟩:Gate)),(enc_55 (⟨(200:Int),(40:Int),(50:Int)⟩:Gate))])⟩:(Sl Gate)) (0:Int) (300:Int)).2.2.1).Den))):=by kernel_rfl
theorem f18_eq3 (K : List PA → Prop) (cv0 : (Sl Line)) (ev0 : Int) (fv1 : Int) (p_0v1 : Int) (p_1v1 : Int) (q_0v1 : Int) (q_1v1 : Int) (gv2 : Int) (sv3 : (Sl Int)) (zv3 : Int) (hv3 : Int) (r_0v3 : Int) (r_1v3 : Int) (t_0v3 : Int) (t_1v3 : Int) :
  f18_at3 K cv0 ev0 fv1 p_0v1 p_1v1 q_0v1 q_1v1 gv2 sv3.len (fun i=>enc_3 (sv3.get i)) zv3 hv3 r_0v3 r_1v3 t_0v3 t_1v3 =
  ((IsE enc_55 3 3 (getL [(enc_55 (⟨(0:Int),(0:Int),(2:Int)⟩:Gate)),(enc_55 (⟨(10:Int),(5:Int),(6:Int)⟩:Gate)),(enc_55 (⟨(20:Int),(0:Int),(2:Int)⟩:Gate))])∧(p55 (⟨3,decF_55 (getL [(enc_55 (⟨(0:Int),(0:Int),(2:Int)⟩:Gate)),(enc_55 (⟨(10:Int),(5:Int),(6:Int)⟩:Gate)),(enc_55 (⟨(20:Int),(0:Int),(2:Int)⟩:Gate))])⟩:(Sl Gate))=true)) ∧
  (f18_at4 K cv0 ev0 fv1 p_0v1 p_1v1 q_0v1 q_1v1 gv2 zv3 hv3 r_0v3 r_1v3 t_0v3 t_1v3 sv3.len (fun i=>enc_3 (sv3.get i)) (((s55 (⟨3,decF_55 (getL [(enc_55 (⟨(0:Int),(0:Int),(2:Int)⟩:Gate)),(enc_55 (⟨(10:Int),(5:Int),(6:Int)⟩:Gate)),(enc_55 (⟨(20:Int),(0:Int),(2:Int)⟩:Gate))])⟩:(Sl Gate))).1).len) (fun i=>enc_3 (((s55 (⟨3,decF_55 (getL [(enc_55 (⟨(0:Int),(0:Int),(2:Int)⟩:Gate)),(enc_55 (⟨(10:Int),(5:Int),(6:Int)⟩:Gate)),(enc_55 (⟨(20:Int),(0:Int),(2:Int)⟩:Gate))])⟩:(Sl Gate))).1).get i)) ((s55 (⟨3,decF_55 (getL [(enc_55 (⟨(0:Int),(0:Int),(2:Int)⟩:Gate)),(enc_55 (⟨(10:Int),(5:Int),(6:Int)⟩:Gate)),(enc_55 (⟨(20:Int),(0:Int),(2:Int)⟩:Gate))])⟩:(Sl Gate))).2.1) ((s55 (⟨3,decF_55 (getL [(enc_55 (⟨(0:Int),(0:Int),(2:Int)⟩:Gate)),(enc_55 (⟨(10:Int),(5:Int),(6:Int)⟩:Gate)),(enc_55 (⟨(20:Int),(0:Int),(2:Int)⟩:Gate))])⟩:(Sl Gate))).2.2))):=by kernel_rfl
theorem f18_eq4 (K : List PA → Prop) (cv0 : (Sl Line)) (ev0 : Int) (fv1 : Int) (p_0v1 : Int) (p_1v1 : Int) (q_0v1 : Int) (q_1v1 : Int) (gv2 : Int) (zv3 : Int) (hv3 : Int) (r_0v3 : Int) (r_1v3 : Int) (t_0v3 : Int) (t_1v3 : Int) (sv4 : (Sl Int)) (lv4 : (Sl Int)) (kv4 : Int) (iv4 : Int) :
  f18_at4 K cv0 ev0 fv1 p_0v1 p_1v1 q_0v1 q_1v1 gv2 zv3 hv3 r_0v3 r_1v3 t_0v3 t_1v3 sv4.len (fun i=>enc_3 (sv4.get i)) lv4.len (fun i=>enc_3 (lv4.get i)) kv4 iv4 =
  (condP (ev0 != (0:Int))
   (K [.one (.bool false)])
   (condP (fv1 != (0:Int))
    (K [.one (.bool false)])
    (condP (gv2 != (0:Int))
     (K [.one (.bool false)])
     (condP (hv3 != (0:Int))
      (K [.one (.bool false)])
      (condP (iv4 != (0:Int))
       (K [.one (.bool false)])
       (condP (kv4 != (600:Int))
        (K [.one (.bool false)])
        (condP (zv3 != (167:Int))
         (K [.one (.bool false)])
         (f18_at5 K cv0 p_0v1 p_1v1 q_0v1 q_1v1 r_0v3 r_1v3 t_0v3 t_1v3 lv4 sv4.len (fun i=>enc_3 (sv4.get i)))))))))):=by kernel_rfl
theorem f18_eq5 (K : List PA → Prop) (cv0 : (Sl Line)) (p_0v1 : Int) (p_1v1 : Int) (q_0v1 : Int) (q_1v1 : Int) (r_0v3 : Int) (r_1v3 : Int) (t_0v3 : Int) (t_1v3 : Int) (lv4 : (Sl Int)) (sv5 : (Sl Int)) :
  f18_at5 K cv0 p_0v1 p_1v1 q_0v1 q_1v1 r_0v3 r_1v3 t_0v3 t_1v3 lv4 sv5.len (fun i=>enc_3 (sv5.get i)) =
  (((p40 (1:Int) (10:Int)=true)) ∧
  (((p40 (10:Int) (1:Int)=true)) ∧
  (((p40 (1:Int) (5:Int)=true)) ∧
  (((p40 (0:Int) (1:Int)=true)) ∧
  (((p40 (3:Int) (10:Int)=true)) ∧
  (((p40 (0:Int) (1:Int)=true)) ∧
  (((p40 (1:Int) (5:Int)=true)) ∧
  (((p40 (10:Int) (1:Int)=true)) ∧
  (f18_at6 K cv0 p_0v1 p_1v1 q_0v1 q_1v1 r_0v3 r_1v3 t_0v3 t_1v3 lv4 sv5.len (fun i=>enc_3 (sv5.get i)) 4 (getL [(enc_37 (⟨(s40 (1:Int) (10:Int)),(s40 (10:Int) (1:Int))⟩:Line)),(enc_37 (⟨(s40 (1:Int) (5:Int)),(s40 (0:Int) (1:Int))⟩:Line)),(enc_37 (⟨(s40 (3:Int) (10:Int)),(s40 (0:Int) (1:Int))⟩:Line)),(enc_37 (⟨(s40 (1:Int) (5:Int)),(s40 (10:Int) (1:Int))⟩:Line))])))))))))):=by kernel_rfl
theorem f18_eq6 (K : List PA → Prop) (cv0 : (Sl Line)) (p_0v1 : Int) (p_1v1 : Int) (q_0v1 : Int) (q_1v1 : Int) (r_0v3 : Int) (r_1v3 : Int) (t_0v3 : Int) (t_1v3 : Int) (lv4 : (Sl Int)) (sv6 : (Sl Int)) (v89v6 : (Sl Line)) :
  f18_at6 K cv0 p_0v1 p_1v1 q_0v1 q_1v1 r_0v3 r_1v3 t_0v3 t_1v3 lv4 sv6.len (fun i=>enc_3 (sv6.get i)) v89v6.len (fun i=>enc_37 (v89v6.get i)) =
  ((IsE enc_37 4 4 (fun i=>enc_37 (cv0.get i))∧IsE enc_37 4 4 (fun i=>enc_37 (v89v6.get i))∧(p34 cv0 v89v6=true)) ∧
  (condP (s34 cv0 v89v6)
   (((p40 (40:Int) (1:Int)=true)) ∧
   (condP (match (p_0v1 == (s40 (40:Int) (1:Int)).Num) with | true => (match (p_1v1 == (s40 (40:Int) (1:Int)).Den) with | true => true | false => false) | false => false)
    (((p40 (90:Int) (1:Int)=true)) ∧
    (condP (match (q_0v1 == (s40 (90:Int) (1:Int)).Num) with | true => (match (q_1v1 == (s40 (90:Int) (1:Int)).Den) with | true => true | false => false) | false => false)
     ((IsE enc_3 1 1 (fun i=>enc_3 (sv6.get i))∧IsE enc_3 1 1 (getL [(enc_3 (0:Int)),(enc_3 (1:Int)),(enc_3 (2:Int))])∧(p39 sv6 (⟨3,decF_3 (getL [(enc_3 (0:Int)),(enc_3 (1:Int)),(enc_3 (2:Int))])⟩:(Sl Int))=true)) ∧
     (condP ((s39 sv6 (⟨3, decF_3 (getL [(enc_3 (0:Int)), (enc_3 (1:Int)), (enc_3 (2:Int))])⟩ : (Sl Int))) == (0:Int))
      (((p40 (499:Int) (10:Int)=true)) ∧
      (condP (match (r_0v3 == (s40 (499:Int) (10:Int)).Num) with | true => (match (r_1v3 == (s40 (499:Int) (10:Int)).Den) with | true => true | false => false) | false => false)
       (((p40 (501:Int) (10:Int)=true)) ∧
       (condP (match (t_0v3 == (s40 (501:Int) (10:Int)).Num) with | true => (match (t_1v3 == (s40 (501:Int) (10:Int)).Den) with | true => true | false => false) | false => false)
        ((IsE enc_3 1 1 (fun i=>enc_3 (lv4.get i))∧IsE enc_3 1 1 (getL [(enc_3 (2:Int)),(enc_3 (5:Int)),(enc_3 (2:Int))])∧(p39 lv4 (⟨3,decF_3 (getL [(enc_3 (2:Int)),(enc_3 (5:Int)),(enc_3 (2:Int))])⟩:(Sl Int))=true)) ∧
        (K [.one (.bool ((s39 lv4 (⟨3,decF_3 (getL [(enc_3 (2:Int)),(enc_3 (5:Int)),(enc_3 (2:Int))])⟩:(Sl Int))) == (0:Int)))]))
        (K [.one (.bool false)])))
       (K [.one (.bool false)])))
      (K [.one (.bool false)])))
     (K [.one (.bool false)])))
    (K [.one (.bool false)])))
   (K [.one (.bool false)]))):=by kernel_rfl
abbrev e18 (r:Bool):List PA:=[.one (.bool r)]
attribute [irreducible] f18_at0 f18_at1 f18_at2 f18_at3 f18_at4 f18_at5 f18_at6
def s18_at6 (cv0:(Sl Line)) (p_0v1:Int) (p_1v1:Int) (q_0v1:Int) (q_1v1:Int) (r_0v3:Int) (r_1v3:Int) (t_0v3:Int) (t_1v3:Int) (lv4:(Sl Int)) (sv6:(Sl Int)) (v89v6:(Sl Line)):Bool :=
  (cond (s34 cv0 v89v6)
   (cond (match (p_0v1 == (s40 (40:Int) (1:Int)).Num) with | true => (match (p_1v1 == (s40 (40:Int) (1:Int)).Den) with | true => true | false => false) | false => false)
    (cond (match (q_0v1 == (s40 (90:Int) (1:Int)).Num) with | true => (match (q_1v1 == (s40 (90:Int) (1:Int)).Den) with | true => true | false => false) | false => false)
     (cond ((s39 sv6 (⟨3, decF_3 (getL [(enc_3 (0:Int)), (enc_3 (1:Int)), (enc_3 (2:Int))])⟩ : (Sl Int))) == (0:Int))
      (cond (match (r_0v3 == (s40 (499:Int) (10:Int)).Num) with | true => (match (r_1v3 == (s40 (499:Int) (10:Int)).Den) with | true => true | false => false) | false => false)
       (cond (match (t_0v3 == (s40 (501:Int) (10:Int)).Num) with | true => (match (t_1v3 == (s40 (501:Int) (10:Int)).Den) with | true => true | false => false) | false => false)
        ((s39 lv4 (⟨3,decF_3 (getL [(enc_3 (2:Int)),(enc_3 (5:Int)),(enc_3 (2:Int))])⟩:(Sl Int))) == (0:Int))
        false)
       false)
      false)
     false)
    false)
   false)
def p18_at6 (cv0:(Sl Line)) (p_0v1:Int) (p_1v1:Int) (q_0v1:Int) (q_1v1:Int) (r_0v3:Int) (r_1v3:Int) (t_0v3:Int) (t_1v3:Int) (lv4:(Sl Int)) (sv6:(Sl Int)) (v89v6:(Sl Line)):Bool :=
  (decide ((p34 cv0 v89v6=true)) &&
  (cond (s34 cv0 v89v6)
   (decide ((p40 (40:Int) (1:Int)=true)) &&
   (cond (match (p_0v1 == (s40 (40:Int) (1:Int)).Num) with | true => (match (p_1v1 == (s40 (40:Int) (1:Int)).Den) with | true => true | false => false) | false => false)
    (decide ((p40 (90:Int) (1:Int)=true)) &&
    (cond (match (q_0v1 == (s40 (90:Int) (1:Int)).Num) with | true => (match (q_1v1 == (s40 (90:Int) (1:Int)).Den) with | true => true | false => false) | false => false)
     (decide ((p39 sv6 (⟨3,decF_3 (getL [(enc_3 (0:Int)),(enc_3 (1:Int)),(enc_3 (2:Int))])⟩:(Sl Int))=true)) &&
     (cond ((s39 sv6 (⟨3, decF_3 (getL [(enc_3 (0:Int)), (enc_3 (1:Int)), (enc_3 (2:Int))])⟩ : (Sl Int))) == (0:Int))
      (decide ((p40 (499:Int) (10:Int)=true)) &&
      (cond (match (r_0v3 == (s40 (499:Int) (10:Int)).Num) with | true => (match (r_1v3 == (s40 (499:Int) (10:Int)).Den) with | true => true | false => false) | false => false)
       (decide ((p40 (501:Int) (10:Int)=true)) &&
       (cond (match (t_0v3 == (s40 (501:Int) (10:Int)).Num) with | true => (match (t_1v3 == (s40 (501:Int) (10:Int)).Den) with | true => true | false => false) | false => false)
        (decide ((p39 lv4 (⟨3,decF_3 (getL [(enc_3 (2:Int)),(enc_3 (5:Int)),(enc_3 (2:Int))])⟩:(Sl Int))=true)) &&
        true)
        true))
       true))
      true))
     true))
    true))
   true))
theorem q18_at6 (K:List PA→Prop) (cv0:(Sl Line)) (p_0v1:Int) (p_1v1:Int) (q_0v1:Int) (q_1v1:Int) (r_0v3:Int) (r_1v3:Int) (t_0v3:Int) (t_1v3:Int) (lv4:(Sl Int)) (sv6:(Sl Int)) (v89v6:(Sl Line)) (sv6_g:Nat→List PV) (sv6_h:sv6_g=fun i=>enc_3 (sv6.get i)) (v89v6_g:Nat→List PV) (v89v6_h:v89v6_g=fun i=>enc_37 (v89v6.get i)) (hs:p18_at6 cv0 p_0v1 p_1v1 q_0v1 q_1v1 r_0v3 r_1v3 t_0v3 t_1v3 lv4 sv6 v89v6=true) (hk:K (e18 (s18_at6 cv0 p_0v1 p_1v1 q_0v1 q_1v1 r_0v3 r_1v3 t_0v3 t_1v3 lv4 sv6 v89v6))):f18_at6 K cv0 p_0v1 p_1v1 q_0v1 q_1v1 r_0v3 r_1v3 t_0v3 t_1v3 lv4 sv6.len sv6_g v89v6.len v89v6_g:=by
  subst sv6_h
  subst v89v6_h
  refine ofEq (f18_eq6 K cv0 p_0v1 p_1v1 q_0v1 q_1v1 r_0v3 r_1v3 t_0v3 t_1v3 lv4 sv6 v89v6) ?_
  unfold p18_at6 at hs
  unfold s18_at6 at hk
  exact (andK hs fun hc hs => ⟨⟨isE, isE, hc⟩, (condB_go (K := fun r => K (e18 r))
   (fun hs hk => (andK hs fun hc hs => ⟨hc, (condB_go (K := fun r => K (e18 r))
    (fun hs hk => (andK hs fun hc hs => ⟨hc, (condB_go (K := fun r => K (e18 r))
     (fun hs hk => (andK hs fun hc hs => ⟨⟨isE, (isE_list [(2:Int)]), hc⟩, (condB_go (K := fun r => K (e18 r))
      (fun hs hk => (andK hs fun hc hs => ⟨hc, (condB_go (K := fun r => K (e18 r))
       (fun hs hk => (andK hs fun hc hs => ⟨hc, (condB_go (K := fun r => K (e18 r))
        (fun hs hk=>(andK hs fun hc hs=>⟨⟨isE,(isE_list [(2:Int)]),hc⟩,hk⟩))
        (fun hs hk=>hk) hs hk)⟩))
       (fun hs hk=>hk) hs hk)⟩))
      (fun hs hk=>hk) hs hk)⟩))
     (fun hs hk=>hk) hs hk)⟩))
    (fun hs hk=>hk) hs hk)⟩))
   (fun hs hk=>hk) hs hk)⟩)
def s18_at5 (cv0:(Sl Line)) (p_0v1:Int) (p_1v1:Int) (q_0v1:Int) (q_1v1:Int) (r_0v3:Int) (r_1v3:Int) (t_0v3:Int) (t_1v3:Int) (lv4:(Sl Int)) (sv5:(Sl Int)):Bool :=
  (s18_at6 cv0 p_0v1 p_1v1 q_0v1 q_1v1 r_0v3 r_1v3 t_0v3 t_1v3 lv4 sv5 (⟨4,(getT (⟨(s40 (1:Int) (10:Int)),(s40 (10:Int) (1:Int))⟩:Line) [(⟨(s40 (1:Int) (10:Int)),(s40 (10:Int) (1:Int))⟩:Line),(⟨(s40 (1:Int) (5:Int)),(s40 (0:Int) (1:Int))⟩:Line),(⟨(s40 (3:Int) (10:Int)),(s40 (0:Int) (1:Int))⟩:Line),(⟨(s40 (1:Int) (5:Int)),(s40 (10:Int) (1:Int))⟩:Line)])⟩:Sl Line))
def p18_at5 (cv0:(Sl Line)) (p_0v1:Int) (p_1v1:Int) (q_0v1:Int) (q_1v1:Int) (r_0v3:Int) (r_1v3:Int) (t_0v3:Int) (t_1v3:Int) (lv4:(Sl Int)) (sv5:(Sl Int)):Bool :=
  (decide ((p40 (1:Int) (10:Int)=true)) &&
  (decide ((p40 (10:Int) (1:Int)=true)) &&
  (decide ((p40 (1:Int) (5:Int)=true)) &&
  (decide ((p40 (0:Int) (1:Int)=true)) &&
  (decide ((p40 (3:Int) (10:Int)=true)) &&
  (decide ((p40 (0:Int) (1:Int)=true)) &&
  (decide ((p40 (1:Int) (5:Int)=true)) &&
  (decide ((p40 (10:Int) (1:Int)=true)) &&
  (p18_at6 cv0 p_0v1 p_1v1 q_0v1 q_1v1 r_0v3 r_1v3 t_0v3 t_1v3 lv4 sv5 (⟨4,(getT (⟨(s40 (1:Int) (10:Int)),(s40 (10:Int) (1:Int))⟩:Line) [(⟨(s40 (1:Int) (10:Int)),(s40 (10:Int) (1:Int))⟩:Line),(⟨(s40 (1:Int) (5:Int)),(s40 (0:Int) (1:Int))⟩:Line),(⟨(s40 (3:Int) (10:Int)),(s40 (0:Int) (1:Int))⟩:Line),(⟨(s40 (1:Int) (5:Int)),(s40 (10:Int) (1:Int))⟩:Line)])⟩:Sl Line))))))))))
theorem q18_at5 (K:List PA→Prop) (cv0:(Sl Line)) (p_0v1:Int) (p_1v1:Int) (q_0v1:Int) (q_1v1:Int) (r_0v3:Int) (r_1v3:Int) (t_0v3:Int) (t_1v3:Int) (lv4:(Sl Int)) (sv5:(Sl Int)) (sv5_g:Nat→List PV) (sv5_h:sv5_g=fun i=>enc_3 (sv5.get i)) (hs:p18_at5 cv0 p_0v1 p_1v1 q_0v1 q_1v1 r_0v3 r_1v3 t_0v3 t_1v3 lv4 sv5=true) (hk:K (e18 (s18_at5 cv0 p_0v1 p_1v1 q_0v1 q_1v1 r_0v3 r_1v3 t_0v3 t_1v3 lv4 sv5))):f18_at5 K cv0 p_0v1 p_1v1 q_0v1 q_1v1 r_0v3 r_1v3 t_0v3 t_1v3 lv4 sv5.len sv5_g:=by
  subst sv5_h
  refine ofEq (f18_eq5 K cv0 p_0v1 p_1v1 q_0v1 q_1v1 r_0v3 r_1v3 t_0v3 t_1v3 lv4 sv5) ?_
  unfold p18_at5 at hs
  unfold s18_at5 at hk
  exact (andK hs fun hc hs=>⟨hc,(andK hs fun hc hs=>⟨hc,(andK hs fun hc hs=>⟨hc,(andK hs fun hc hs=>⟨hc,(andK hs fun hc hs=>⟨hc,(andK hs fun hc hs=>⟨hc,(andK hs fun hc hs=>⟨hc,(andK hs fun hc hs=>⟨hc,(q18_at6 K cv0 p_0v1 p_1v1 q_0v1 q_1v1 r_0v3 r_1v3 t_0v3 t_1v3 lv4 sv5 (⟨4,(getT (⟨(s40 (1:Int) (10:Int)),(s40 (10:Int) (1:Int))⟩:Line) [(⟨(s40 (1:Int) (10:Int)),(s40 (10:Int) (1:Int))⟩:Line),(⟨(s40 (1:Int) (5:Int)),(s40 (0:Int) (1:Int))⟩:Line),(⟨(s40 (3:Int) (10:Int)),(s40 (0:Int) (1:Int))⟩:Line),(⟨(s40 (1:Int) (5:Int)),(s40 (10:Int) (1:Int))⟩:Line)])⟩:Sl Line) (fun i=>enc_3 (sv5.get i)) rfl (getL [(enc_37 (⟨(s40 (1:Int) (10:Int)),(s40 (10:Int) (1:Int))⟩:Line)),(enc_37 (⟨(s40 (1:Int) (5:Int)),(s40 (0:Int) (1:Int))⟩:Line)),(enc_37 (⟨(s40 (3:Int) (10:Int)),(s40 (0:Int) (1:Int))⟩:Line)),(enc_37 (⟨(s40 (1:Int) (5:Int)),(s40 (10:Int) (1:Int))⟩:Line))]) (getL_enc (enc:=enc_37) (x:=(⟨(s40 (1:Int) (10:Int)),(s40 (10:Int) (1:Int))⟩:Line)) (y:=(⟨(s40 (1:Int) (5:Int)),(s40 (0:Int) (1:Int))⟩:Line)) (r:=[(⟨(s40 (3:Int) (10:Int)),(s40 (0:Int) (1:Int))⟩:Line),(⟨(s40 (1:Int) (5:Int)),(s40 (10:Int) (1:Int))⟩:Line)])) hs hk)⟩)⟩)⟩)⟩)⟩)⟩)⟩)⟩)
def s18_at4 (cv0:(Sl Line)) (ev0:Int) (fv1:Int) (p_0v1:Int) (p_1v1:Int) (q_0v1:Int) (q_1v1:Int) (gv2:Int) (zv3:Int) (hv3:Int) (r_0v3:Int) (r_1v3:Int) (t_0v3:Int) (t_1v3:Int) (sv4:(Sl Int)) (lv4:(Sl Int)) (kv4:Int) (iv4:Int):Bool :=
  (cond (ev0 != (0:Int))
   false
   (cond (fv1 != (0:Int))
    false
    (cond (gv2 != (0:Int))
     false
     (cond (hv3 != (0:Int))
      false
      (cond (iv4 != (0:Int))
       false
       (cond (kv4 != (600:Int))
        false
        (cond (zv3 != (167:Int))
         false
         (s18_at5 cv0 p_0v1 p_1v1 q_0v1 q_1v1 r_0v3 r_1v3 t_0v3 t_1v3 lv4 sv4))))))))
def p18_at4 (cv0:(Sl Line)) (ev0:Int) (fv1:Int) (p_0v1:Int) (p_1v1:Int) (q_0v1:Int) (q_1v1:Int) (gv2:Int) (zv3:Int) (hv3:Int) (r_0v3:Int) (r_1v3:Int) (t_0v3:Int) (t_1v3:Int) (sv4:(Sl Int)) (lv4:(Sl Int)) (kv4:Int) (iv4:Int):Bool :=
  (cond (ev0 != (0:Int))
   true
   (cond (fv1 != (0:Int))
    true
    (cond (gv2 != (0:Int))
     true
     (cond (hv3 != (0:Int))
      true
      (cond (iv4 != (0:Int))
       true
       (cond (kv4 != (600:Int))
        true
        (cond (zv3 != (167:Int))
         true
         (p18_at5 cv0 p_0v1 p_1v1 q_0v1 q_1v1 r_0v3 r_1v3 t_0v3 t_1v3 lv4 sv4))))))))
theorem q18_at4 (K:List PA→Prop) (cv0:(Sl Line)) (ev0:Int) (fv1:Int) (p_0v1:Int) (p_1v1:Int) (q_0v1:Int) (q_1v1:Int) (gv2:Int) (zv3:Int) (hv3:Int) (r_0v3:Int) (r_1v3:Int) (t_0v3:Int) (t_1v3:Int) (sv4:(Sl Int)) (lv4:(Sl Int)) (kv4:Int) (iv4:Int) (sv4_g:Nat→List PV) (sv4_h:sv4_g=fun i=>enc_3 (sv4.get i)) (lv4_g:Nat→List PV) (lv4_h:lv4_g=fun i=>enc_3 (lv4.get i)) (hs:p18_at4 cv0 ev0 fv1 p_0v1 p_1v1 q_0v1 q_1v1 gv2 zv3 hv3 r_0v3 r_1v3 t_0v3 t_1v3 sv4 lv4 kv4 iv4=true) (hk:K (e18 (s18_at4 cv0 ev0 fv1 p_0v1 p_1v1 q_0v1 q_1v1 gv2 zv3 hv3 r_0v3 r_1v3 t_0v3 t_1v3 sv4 lv4 kv4 iv4))):f18_at4 K cv0 ev0 fv1 p_0v1 p_1v1 q_0v1 q_1v1 gv2 zv3 hv3 r_0v3 r_1v3 t_0v3 t_1v3 sv4.len sv4_g lv4.len lv4_g kv4 iv4:=by
  subst sv4_h
  subst lv4_h
  refine ofEq (f18_eq4 K cv0 ev0 fv1 p_0v1 p_1v1 q_0v1 q_1v1 gv2 zv3 hv3 r_0v3 r_1v3 t_0v3 t_1v3 sv4 lv4 kv4 iv4) ?_
  unfold p18_at4 at hs
  unfold s18_at4 at hk
  exact (condB_go (K := fun r => K (e18 r))
   (fun hs hk=>hk)
   (fun hs hk => (condB_go (K := fun r => K (e18 r))
    (fun hs hk=>hk)
    (fun hs hk => (condB_go (K := fun r => K (e18 r))
     (fun hs hk=>hk)
     (fun hs hk => (condB_go (K := fun r => K (e18 r))
      (fun hs hk=>hk)
      (fun hs hk => (condB_go (K := fun r => K (e18 r))
       (fun hs hk=>hk)
       (fun hs hk => (condB_go (K := fun r => K (e18 r))
        (fun hs hk=>hk)
        (fun hs hk => (condB_go (K := fun r => K (e18 r))
         (fun hs hk=>hk)
         (fun hs hk=>(q18_at5 K cv0 p_0v1 p_1v1 q_0v1 q_1v1 r_0v3 r_1v3 t_0v3 t_1v3 lv4 sv4 (fun i=>enc_3 (sv4.get i)) rfl hs hk)) hs hk)) hs hk)) hs hk)) hs hk)) hs hk)) hs hk)) hs hk)
def s18_at3 (cv0:(Sl Line)) (ev0:Int) (fv1:Int) (p_0v1:Int) (p_1v1:Int) (q_0v1:Int) (q_1v1:Int) (gv2:Int) (sv3:(Sl Int)) (zv3:Int) (hv3:Int) (r_0v3:Int) (r_1v3:Int) (t_0v3:Int) (t_1v3:Int):Bool :=
  (s18_at4 cv0 ev0 fv1 p_0v1 p_1v1 q_0v1 q_1v1 gv2 zv3 hv3 r_0v3 r_1v3 t_0v3 t_1v3 sv3 ((s55 (⟨3,decF_55 (getL [(enc_55 (⟨(0:Int),(0:Int),(2:Int)⟩:Gate)),(enc_55 (⟨(10:Int),(5:Int),(6:Int)⟩:Gate)),(enc_55 (⟨(20:Int),(0:Int),(2:Int)⟩:Gate))])⟩:(Sl Gate))).1) ((s55 (⟨3,decF_55 (getL [(enc_55 (⟨(0:Int),(0:Int),(2:Int)⟩:Gate)),(enc_55 (⟨(10:Int),(5:Int),(6:Int)⟩:Gate)),(enc_55 (⟨(20:Int),(0:Int),(2:Int)⟩:Gate))])⟩:(Sl Gate))).2.1) ((s55 (⟨3,decF_55 (getL [(enc_55 (⟨(0:Int),(0:Int),(2:Int)⟩:Gate)),(enc_55 (⟨(10:Int),(5:Int),(6:Int)⟩:Gate)),(enc_55 (⟨(20:Int),(0:Int),(2:Int)⟩:Gate))])⟩:(Sl Gate))).2.2))
def p18_at3 (cv0:(Sl Line)) (ev0:Int) (fv1:Int) (p_0v1:Int) (p_1v1:Int) (q_0v1:Int) (q_1v1:Int) (gv2:Int) (sv3:(Sl Int)) (zv3:Int) (hv3:Int) (r_0v3:Int) (r_1v3:Int) (t_0v3:Int) (t_1v3:Int):Bool :=
  (decide ((p55 (⟨3,decF_55 (getL [(enc_55 (⟨(0:Int),(0:Int),(2:Int)⟩:Gate)),(enc_55 (⟨(10:Int),(5:Int),(6:Int)⟩:Gate)),(enc_55 (⟨(20:Int),(0:Int),(2:Int)⟩:Gate))])⟩:(Sl Gate))=true)) &&
  (p18_at4 cv0 ev0 fv1 p_0v1 p_1v1 q_0v1 q_1v1 gv2 zv3 hv3 r_0v3 r_1v3 t_0v3 t_1v3 sv3 ((s55 (⟨3,decF_55 (getL [(enc_55 (⟨(0:Int),(0:Int),(2:Int)⟩:Gate)),(enc_55 (⟨(10:Int),(5:Int),(6:Int)⟩:Gate)),(enc_55 (⟨(20:Int),(0:Int),(2:Int)⟩:Gate))])⟩:(Sl Gate))).1) ((s55 (⟨3,decF_55 (getL [(enc_55 (⟨(0:Int),(0:Int),(2:Int)⟩:Gate)),(enc_55 (⟨(10:Int),(5:Int),(6:Int)⟩:Gate)),(enc_55 (⟨(20:Int),(0:Int),(2:Int)⟩:Gate))])⟩:(Sl Gate))).2.1) ((s55 (⟨3,decF_55 (getL [(enc_55 (⟨(0:Int),(0:Int),(2:Int)⟩:Gate)),(enc_55 (⟨(10:Int),(5:Int),(6:Int)⟩:Gate)),(enc_55 (⟨(20:Int),(0:Int),(2:Int)⟩:Gate))])⟩:(Sl Gate))).2.2)))
theorem q18_at3 (K:List PA→Prop) (cv0:(Sl Line)) (ev0:Int) (fv1:Int) (p_0v1:Int) (p_1v1:Int) (q_0v1:Int) (q_1v1:Int) (gv2:Int) (sv3:(Sl Int)) (zv3:Int) (hv3:Int) (r_0v3:Int) (r_1v3:Int) (t_0v3:Int) (t_1v3:Int) (sv3_g:Nat→List PV) (sv3_h:sv3_g=fun i=>enc_3 (sv3.get i)) (hs:p18_at3 cv0 ev0 fv1 p_0v1 p_1v1 q_0v1 q_1v1 gv2 sv3 zv3 hv3 r_0v3 r_1v3 t_0v3 t_1v3=true) (hk:K (e18 (s18_at3 cv0 ev0 fv1 p_0v1 p_1v1 q_0v1 q_1v1 gv2 sv3 zv3 hv3 r_0v3 r_1v3 t_0v3 t_1v3))):f18_at3 K cv0 ev0 fv1 p_0v1 p_1v1 q_0v1 q_1v1 gv2 sv3.len sv3_g zv3 hv3 r_0v3 r_1v3 t_0v3 t_1v3:=by
  subst sv3_h
  refine ofEq (f18_eq3 K cv0 ev0 fv1 p_0v1 p_1v1 q_0v1 q_1v1 gv2 sv3 zv3 hv3 r_0v3 r_1v3 t_0v3 t_1v3) ?_
  unfold p18_at3 at hs
  unfold s18_at3 at hk
  exact (andK hs fun hc hs=>⟨⟨(isE_list [(⟨(20:Int),(0:Int),(2:Int)⟩:Gate)]),hc⟩,(q18_at4 K cv0 ev0 fv1 p_0v1 p_1v1 q_0v1 q_1v1 gv2 zv3 hv3 r_0v3 r_1v3 t_0v3 t_1v3 sv3 ((s55 (⟨3,decF_55 (getL [(enc_55 (⟨(0:Int),(0:Int),(2:Int)⟩:Gate)),(enc_55 (⟨(10:Int),(5:Int),(6:Int)⟩:Gate)),(enc_55 (⟨(20:Int),(0:Int),(2:Int)⟩:Gate))])⟩:(Sl Gate))).1) ((s55 (⟨3,decF_55 (getL [(enc_55 (⟨(0:Int),(0:Int),(2:Int)⟩:Gate)),(enc_55 (⟨(10:Int),(5:Int),(6:Int)⟩:Gate)),(enc_55 (⟨(20:Int),(0:Int),(2:Int)⟩:Gate))])⟩:(Sl Gate))).2.1) ((s55 (⟨3,decF_55 (getL [(enc_55 (⟨(0:Int),(0:Int),(2:Int)⟩:Gate)),(enc_55 (⟨(10:Int),(5:Int),(6:Int)⟩:Gate)),(enc_55 (⟨(20:Int),(0:Int),(2:Int)⟩:Gate))])⟩:(Sl Gate))).2.2) (fun i=>enc_3 (sv3.get i)) rfl (fun i=>enc_3 (((s55 (⟨3,decF_55 (getL [(enc_55 (⟨(0:Int),(0:Int),(2:Int)⟩:Gate)),(enc_55 (⟨(10:Int),(5:Int),(6:Int)⟩:Gate)),(enc_55 (⟨(20:Int),(0:Int),(2:Int)⟩:Gate))])⟩:(Sl Gate))).1).get i)) rfl hs hk)⟩)
def s18_at2 (cv0:(Sl Line)) (ev0:Int) (fv1:Int) (p_0v1:Int) (p_1v1:Int) (q_0v1:Int) (q_1v1:Int) (sv2:(Sl Int)) (gv2:Int):Bool :=
  (s18_at3 cv0 ev0 fv1 p_0v1 p_1v1 q_0v1 q_1v1 gv2 sv2 ((s19 s62 (⟨2,decF_55 (getL [(enc_55 (⟨(0:Int),(100:Int),(110:Int)⟩:Gate)),(enc_55 (⟨(200:Int),(40:Int),(50:Int)⟩:Gate))])⟩:(Sl Gate)) (0:Int) (300:Int)).1) ((s19 s62 (⟨2,decF_55 (getL [(enc_55 (⟨(0:Int),(100:Int),(110:Int)⟩:Gate)),(enc_55 (⟨(200:Int),(40:Int),(50:Int)⟩:Gate))])⟩:(Sl Gate)) (0:Int) (300:Int)).2.2.2) (((s19 s62 (⟨2,decF_55 (getL [(enc_55 (⟨(0:Int),(100:Int),(110:Int)⟩:Gate)),(enc_55 (⟨(200:Int),(40:Int),(50:Int)⟩:Gate))])⟩:(Sl Gate)) (0:Int) (300:Int)).2.1).Num) (((s19 s62 (⟨2,decF_55 (getL [(enc_55 (⟨(0:Int),(100:Int),(110:Int)⟩:Gate)),(enc_55 (⟨(200:Int),(40:Int),(50:Int)⟩:Gate))])⟩:(Sl Gate)) (0:Int) (300:Int)).2.1).Den) (((s19 s62 (⟨2,decF_55 (getL [(enc_55 (⟨(0:Int),(100:Int),(110:Int)⟩:Gate)),(enc_55 (⟨(200:Int),(40:Int),(50:Int)⟩:Gate))])⟩:(Sl Gate)) (0:Int) (300:Int)).2.2.1).Num) (((s19 s62 (⟨2,decF_55 (getL [(enc_55 (⟨(0:Int),(100:Int),(110:Int)⟩:Gate)),(enc_55 (⟨(200:Int),(40:Int),(50:Int)⟩:Gate))])⟩:(Sl Gate)) (0:Int) (300:Int)).2.2.1).Den))
def p18_at2 (cv0:(Sl Line)) (ev0:Int) (fv1:Int) (p_0v1:Int) (p_1v1:Int) (q_0v1:Int) (q_1v1:Int) (sv2:(Sl Int)) (gv2:Int):Bool :=
  (decide ((p19 s62 (⟨2,decF_55 (getL [(enc_55 (⟨(0:Int),(100:Int),(110:Int)⟩:Gate)),(enc_55 (⟨(200:Int),(40:Int),(50:Int)⟩:Gate))])⟩:(Sl Gate)) (0:Int) (300:Int)=true)) &&
  (p18_at3 cv0 ev0 fv1 p_0v1 p_1v1 q_0v1 q_1v1 gv2 sv2 ((s19 s62 (⟨2,decF_55 (getL [(enc_55 (⟨(0:Int),(100:Int),(110:Int)⟩:Gate)),(enc_55 (⟨(200:Int),(40:Int),(50:Int)⟩:Gate))])⟩:(Sl Gate)) (0:Int) (300:Int)).1) ((s19 s62 (⟨2,decF_55 (getL [(enc_55 (⟨(0:Int),(100:Int),(110:Int)⟩:Gate)),(enc_55 (⟨(200:Int),(40:Int),(50:Int)⟩:Gate))])⟩:(Sl Gate)) (0:Int) (300:Int)).2.2.2) (((s19 s62 (⟨2,decF_55 (getL [(enc_55 (⟨(0:Int),(100:Int),(110:Int)⟩:Gate)),(enc_55 (⟨(200:Int),(40:Int),(50:Int)⟩:Gate))])⟩:(Sl Gate)) (0:Int) (300:Int)).2.1).Num) (((s19 s62 (⟨2,decF_55 (getL [(enc_55 (⟨(0:Int),(100:Int),(110:Int)⟩:Gate)),(enc_55 (⟨(200:Int),(40:Int),(50:Int)⟩:Gate))])⟩:(Sl Gate)) (0:Int) (300:Int)).2.1).Den) (((s19 s62 (⟨2,decF_55 (getL [(enc_55 (⟨(0:Int),(100:Int),(110:Int)⟩:Gate)),(enc_55 (⟨(200:Int),(40:Int),(50:Int)⟩:Gate))])⟩:(Sl Gate)) (0:Int) (300:Int)).2.2.1).Num) (((s19 s62 (⟨2,decF_55 (getL [(enc_55 (⟨(0:Int),(100:Int),(110:Int)⟩:Gate)),(enc_55 (⟨(200:Int),(40:Int),(50:Int)⟩:Gate))])⟩:(Sl Gate)) (0:Int) (300:Int)).2.2.1).Den)))
theorem q18_at2 (K:List PA→Prop) (cv0:(Sl Line)) (ev0:Int) (fv1:Int) (p_0v1:Int) (p_1v1:Int) (q_0v1:Int) (q_1v1:Int) (sv2:(Sl Int)) (gv2:Int) (sv2_g:Nat→List PV) (sv2_h:sv2_g=fun i=>enc_3 (sv2.get i)) (hs:p18_at2 cv0 ev0 fv1 p_0v1 p_1v1 q_0v1 q_1v1 sv2 gv2=true) (hk:K (e18 (s18_at2 cv0 ev0 fv1 p_0v1 p_1v1 q_0v1 q_1v1 sv2 gv2))):f18_at2 K cv0 ev0 fv1 p_0v1 p_1v1 q_0v1 q_1v1 sv2.len sv2_g gv2:=by
  subst sv2_h
  refine ofEq (f18_eq2 K cv0 ev0 fv1 p_0v1 p_1v1 q_0v1 q_1v1 sv2 gv2) ?_
  unfold p18_at2 at hs
  unfold s18_at2 at hk
  exact (andK hs fun hc hs=>⟨⟨isE,(isE_list []),hc⟩,(q18_at3 K cv0 ev0 fv1 p_0v1 p_1v1 q_0v1 q_1v1 gv2 sv2 ((s19 s62 (⟨2,decF_55 (getL [(enc_55 (⟨(0:Int),(100:Int),(110:Int)⟩:Gate)),(enc_55 (⟨(200:Int),(40:Int),(50:Int)⟩:Gate))])⟩:(Sl Gate)) (0:Int) (300:Int)).1) ((s19 s62 (⟨2,decF_55 (getL [(enc_55 (⟨(0:Int),(100:Int),(110:Int)⟩:Gate)),(enc_55 (⟨(200:Int),(40:Int),(50:Int)⟩:Gate))])⟩:(Sl Gate)) (0:Int) (300:Int)).2.2.2) (((s19 s62 (⟨2,decF_55 (getL [(enc_55 (⟨(0:Int),(100:Int),(110:Int)⟩:Gate)),(enc_55 (⟨(200:Int),(40:Int),(50:Int)⟩:Gate))])⟩:(Sl Gate)) (0:Int) (300:Int)).2.1).Num) (((s19 s62 (⟨2,decF_55 (getL [(enc_55 (⟨(0:Int),(100:Int),(110:Int)⟩:Gate)),(enc_55 (⟨(200:Int),(40:Int),(50:Int)⟩:Gate))])⟩:(Sl Gate)) (0:Int) (300:Int)).2.1).Den) (((s19 s62 (⟨2,decF_55 (getL [(enc_55 (⟨(0:Int),(100:Int),(110:Int)⟩:Gate)),(enc_55 (⟨(200:Int),(40:Int),(50:Int)⟩:Gate))])⟩:(Sl Gate)) (0:Int) (300:Int)).2.2.1).Num) (((s19 s62 (⟨2,decF_55 (getL [(enc_55 (⟨(0:Int),(100:Int),(110:Int)⟩:Gate)),(enc_55 (⟨(200:Int),(40:Int),(50:Int)⟩:Gate))])⟩:(Sl Gate)) (0:Int) (300:Int)).2.2.1).Den) (fun i=>enc_3 (sv2.get i)) rfl hs hk)⟩)
def s18_at1 (cv0:(Sl Line)) (ev0:Int) (fv1:Int) (p_0v1:Int) (p_1v1:Int) (q_0v1:Int) (q_1v1:Int):Bool :=
  (s18_at2 cv0 ev0 fv1 p_0v1 p_1v1 q_0v1 q_1v1 ((s38 s63).1) ((s38 s63).2))
def p18_at1 (cv0:(Sl Line)) (ev0:Int) (fv1:Int) (p_0v1:Int) (p_1v1:Int) (q_0v1:Int) (q_1v1:Int):Bool :=
  (decide ((p38 s63=true)) &&
  (p18_at2 cv0 ev0 fv1 p_0v1 p_1v1 q_0v1 q_1v1 ((s38 s63).1) ((s38 s63).2)))
theorem q18_at1 (K:List PA→Prop) (cv0:(Sl Line)) (ev0:Int) (fv1:Int) (p_0v1:Int) (p_1v1:Int) (q_0v1:Int) (q_1v1:Int) (hs:p18_at1 cv0 ev0 fv1 p_0v1 p_1v1 q_0v1 q_1v1=true) (hk:K (e18 (s18_at1 cv0 ev0 fv1 p_0v1 p_1v1 q_0v1 q_1v1))):f18_at1 K cv0 ev0 fv1 p_0v1 p_1v1 q_0v1 q_1v1:=by
  refine ofEq (f18_eq1 K cv0 ev0 fv1 p_0v1 p_1v1 q_0v1 q_1v1) ?_
  unfold p18_at1 at hs
  unfold s18_at1 at hk
  exact (andK hs fun hc hs=>⟨⟨isE,hc⟩,(q18_at2 K cv0 ev0 fv1 p_0v1 p_1v1 q_0v1 q_1v1 ((s38 s63).1) ((s38 s63).2) (fun i=>enc_3 (((s38 s63).1).get i)) rfl hs hk)⟩)
def s18_at0 (cv0:(Sl Line)) (ev0:Int):Bool :=
  (s18_at1 cv0 ev0 ((s30 s62 (300:Int)).2.2) (((s30 s62 (300:Int)).1).Num) (((s30 s62 (300:Int)).1).Den) (((s30 s62 (300:Int)).2.1).Num) (((s30 s62 (300:Int)).2.1).Den))
def p18_at0 (cv0:(Sl Line)) (ev0:Int):Bool :=
  (decide ((p30 s62 (300:Int)=true)) &&
  (p18_at1 cv0 ev0 ((s30 s62 (300:Int)).2.2) (((s30 s62 (300:Int)).1).Num) (((s30 s62 (300:Int)).1).Den) (((s30 s62 (300:Int)).2.1).Num) (((s30 s62 (300:Int)).2.1).Den)))
theorem q18_at0 (K:List PA→Prop) (cv0:(Sl Line)) (ev0:Int) (cv0_g:Nat→List PV) (cv0_h:cv0_g=fun i=>enc_37 (cv0.get i)) (hs:p18_at0 cv0 ev0=true) (hk:K (e18 (s18_at0 cv0 ev0))):f18_at0 K cv0.len cv0_g ev0:=by
  subst cv0_h
  refine ofEq (f18_eq0 K cv0 ev0) ?_
  unfold p18_at0 at hs
  unfold s18_at0 at hk
  exact (andK hs fun hc hs=>⟨⟨isE,hc⟩,(q18_at1 K cv0 ev0 ((s30 s62 (300:Int)).2.2) (((s30 s62 (300:Int)).1).Num) (((s30 s62 (300:Int)).1).Den) (((s30 s62 (300:Int)).2.1).Num) (((s30 s62 (300:Int)).2.1).Den) hs hk)⟩)
def s18:Bool :=
  (s18_at0 ((s31 s62).1) ((s31 s62).2))
def p18:Bool :=
  (decide ((p31 s62=true)) &&
  (p18_at0 ((s31 s62).1) ((s31 s62).2)))
theorem q18 (K:List PA→Prop) (hs:p18=true) (hk:K (e18 (s18))):vcFun Try.prog G18 ann18 18 [] K:=by
  refine ofEq (f18_top K) ?_
  unfold p18 at hs
  unfold s18 at hk
  exact (andK hs fun hc hs=>⟨⟨isE,hc⟩,(q18_at0 K ((s31 s62).1) ((s31 s62).2) (fun i=>enc_37 (((s31 s62).1).get i)) rfl hs hk)⟩)
theorem p18_ok:p18=true:=by kernel_rfl
theorem s18_ok:s18=true:=by kernel_rfl
def ctr18 : List PA → COut
  | []=>.tot [.one (.bool true)]
  | _=>.no
theorem call18:Callable Try.prog 18:=⟨_,rfl,rfl,by kernel_rfl⟩
theorem ok18:Ok Try.prog 18 ctr18:=ok_tab okT18 call18 fun args K h=>by
  unfold ctr18 at h
  split at h
  · refine ⟨fun _ _ => [], fun _ => false, ann18, q18 K p18_ok ?_⟩
    show K [.one (.bool s18)]
    rw [s18_ok];exact h
  · exact h.elim
abbrev T70:Tabs:=Tabs.nil
theorem okT70:TabsOk Try.prog T70:=TabsOk.nil
abbrev G70:Ctrs:=csm T70 (fun _ _=>[]) (fun _=>false)
def ann70:Ann:=⟨15,[(0,⟨[0,1,2],[],[],[],[],[],[]⟩),(1,⟨[6],[],[],[],[],[],[]⟩)],
  [],
  [],
  [],[]⟩
theorem f70_top (n : Int) (low : Int) (high : Int) (K : List PA → Prop) :
  vcFun Try.prog G70 ann70 70 [.one (.int .i64 n),.one (.int .i64 low),.one (.int .i64 high)] K =
  (condP (decide (n ≥ low))
   (K [.one (.bool (decide (n≤high)))])
   (K [.one (.bool false)])):=by kernel_rfl
abbrev e70 (r:Bool):List PA:=[.one (.bool r)]
def s70 (n:Int) (low:Int) (high:Int):Bool :=
  (cond (decide (n ≥ low))
   (decide (n≤high))
   false)
theorem q70 (n:Int) (low:Int) (high:Int) (K:List PA→Prop) (hk:K (e70 (s70 n low high))):vcFun Try.prog G70 ann70 70 [.one (.int .i64 n),.one (.int .i64 low),.one (.int .i64 high)] K:=by
  refine ofEq (f70_top n low high K) ?_
  unfold s70 at hk
  exact (condP_gt (K := fun r => K (e70 r))
   (fun hk=>hk)
   (fun hk=>hk) hk)
def ctr70 : List PA → COut
  | [.one (.int .i64 a0),.one (.int .i64 a1),.one (.int .i64 a2)]=>.tot [.one (.bool (s70 a0 a1 a2))]
  | _=>.no
theorem call70:Callable Try.prog 70:=⟨_,rfl,rfl,by kernel_rfl⟩
theorem ok70:Ok Try.prog 70 ctr70:=ok_tab okT70 call70 fun args K h=>by
  unfold ctr70 at h
  split at h
  · rename_i a0 a1 a2
    have hk:=h
    exact ⟨(fun _ _=>[]),(fun _=>false),ann70,q70 a0 a1 a2 K hk⟩
  · exact h.elim
end Go.Proofs
namespace Go.Proofs
open Go Go.Pm
set_option maxRecDepth 100000
set_option linter.unusedVariables false
attribute [local irreducible] Go.Pm.vcFun Go.Pm.vc Go.Pm.vcIter
abbrev T44:Tabs:=((Tabs.nil.addF 74 ctr74).addF 85 ctr85)
theorem okT44:TabsOk Try.prog T44:=((TabsOk.nil.addF ok74).addF ok85)
abbrev G44:Ctrs:=csm T44 (fun _ _=>[]) (fun _=>false)
def ann44:Ann:=⟨92,[(0,⟨[0,1],[],[],[],[],[],[]⟩),(1,⟨[0,1,20],[],[],[],[],[],[]⟩),(2,⟨[4,5],[],[],[],[],[],[]⟩),(3,⟨[0,1,21,22,23],[],[],[],[],[],[]⟩),(4,⟨[0,1,21,22,23,24],[],[],[],[],[],[]⟩),(5,⟨[0,1,6,7,21,22,23],[],[],[],[],[],[]⟩),(6,⟨[0,1,21,22,23,51],[],[],[],[],[],[]⟩),(7,⟨[4,5],[],[],[],[],[],[]⟩),(8,⟨[0,1,21,22,23],[],[],[],[],[],[]⟩),(9,⟨[0,1,8],[],[],[],[],[],[]⟩),(10,⟨[0,1,8,55,56],[],[],[],[],[],[]⟩),(11,⟨[0,1,8,55,56,57],[],[],[],[],[],[]⟩),(12,⟨[0,1,8,9,55,56],[],[],[],[],[],[]⟩),(13,⟨[0,1,8,55,56],[],[],[],[],[],[]⟩),(14,⟨[0,1,8,55,56],[],[],[],[],[],[]⟩),(15,⟨[4,5],[],[],[],[],[],[]⟩)],
  [(4,⟨[0,1,21,22,23],[],[],[],[],[],[]⟩),(11,⟨[0,1,8,55,56],[],[],[],[],[],[]⟩)],
  [(2,⟨[0,1,20],[],[],[],[],[],[]⟩),(3,⟨[0,1],[],[],[],[],[],[]⟩),(7,⟨[0,1,21,22,23,51],[],[],[],[],[],[]⟩),(9,⟨[0,1],[],[],[],[],[],[]⟩)],
  [],[]⟩
def f44_g0 (heights:(Sl Int)) (places:(Sl Int)) (t20v0:Bool):St:=⟨[(0,.one (.c (.p (.sl heights.len 1 (fun i=>enc_3 (heights.get i)))))),(1,.one (.c (.p (.sl places.len 1 (fun i=>enc_3 (places.get i)))))),(20,.one (.c (.p (.bool t20v0))))],[],[]⟩
def f44_at0 (K:List PA→Prop) (heights:(Sl Int)) (places:(Sl Int)) (t20v0:Bool):Prop:=vc Try.prog G44 ann44 (cdF Try.f44 [1,0,1]) (sqK Try.prog G44 ann44 (cdF Try.f44 [1,1]) (bodyK Try.prog Try.f44 K)) (f44_g0 heights places t20v0)
def f44_g1 (heights:(Sl Int)) (places:(Sl Int)):St:=⟨[(0,.one (.c (.p (.sl heights.len 1 (fun i=>enc_3 (heights.get i)))))),(1,.one (.c (.p (.sl places.len 1 (fun i=>enc_3 (places.get i))))))],[],[]⟩
def f44_at1 (K:List PA→Prop) (heights:(Sl Int)) (places:(Sl Int)):Prop:=vc Try.prog G44 ann44 (cdF Try.f44 [1,1]) (bodyK Try.prog Try.f44 K) (f44_g1 heights places)
def f44_g2 (heights:(Sl Int)) (places:(Sl Int)) (t23v2:Int):St:=⟨[(0,.one (.c (.p (.sl heights.len 1 (fun i=>enc_3 (heights.get i)))))),(1,.one (.c (.p (.sl places.len 1 (fun i=>enc_3 (places.get i)))))),(21,.one (.c (.p (.sl heights.len 1 (fun i=>enc_3 (heights.get i)))))),(22,.one (.c (.p (.int .i64 (heights.len:Int))))),(23,.one (.c (.p (.int .i64 t23v2))))],[],[]⟩
def f44_at2 (K:List PA→Prop) (heights:(Sl Int)) (places:(Sl Int)) (t23v2:Int):Prop:=vc Try.prog G44 ann44 (cdF Try.f44 [1,1,0,1,0]) (blockK 0 (sqK Try.prog G44 ann44 (cdF Try.f44 [1,1,1]) (bodyK Try.prog Try.f44 K))) (f44_g2 heights places t23v2)
def f44_g3 (heights:(Sl Int)) (places:(Sl Int)) (t23v3:Int) (t51v3:Bool):St:=⟨[(0,.one (.c (.p (.sl heights.len 1 (fun i=>enc_3 (heights.get i)))))),(1,.one (.c (.p (.sl places.len 1 (fun i=>enc_3 (places.get i)))))),(21,.one (.c (.p (.sl heights.len 1 (fun i=>enc_3 (heights.get i)))))),(22,.one (.c (.p (.int .i64 (heights.len:Int))))),(23,.one (.c (.p (.int .i64 t23v3)))),(51,.one (.c (.p (.bool t51v3))))],[],[]⟩
def f44_at3 (K:List PA→Prop) (X2:St→Prop) (heights:(Sl Int)) (places:(Sl Int)) (t23v3:Int) (t51v3:Bool):Prop:=vc Try.prog G44 ann44 (cdF Try.f44 [1,1,0,1,0,0,1,1,0,0,1,1]) (blockK 1 (sqK Try.prog G44 ann44 (cdF Try.f44 [1,1,0,1,0,0,1,1,1]) (loopK Try.prog ann44 4 X2 (blockK 0 (sqK Try.prog G44 ann44 (cdF Try.f44 [1,1,1]) (bodyK Try.prog Try.f44 K)))))) (f44_g3 heights places t23v3 t51v3)
def f44_g4 (heights:(Sl Int)) (places:(Sl Int)):St:=⟨[(0,.one (.c (.p (.sl heights.len 1 (fun i=>enc_3 (heights.get i)))))),(1,.one (.c (.p (.sl places.len 1 (fun i=>enc_3 (places.get i))))))],[],[]⟩
def f44_at4 (K:List PA→Prop) (heights:(Sl Int)) (places:(Sl Int)):Prop:=vc Try.prog G44 ann44 (cdF Try.f44 [1,1,1]) (bodyK Try.prog Try.f44 K) (f44_g4 heights places)
def f44_g5 (heights:(Sl Int)) (places:(Sl Int)) (kinkv5:Int) (t56v5:Int):St:=⟨[(0,.one (.c (.p (.sl heights.len 1 (fun i=>enc_3 (heights.get i)))))),(1,.one (.c (.p (.sl places.len 1 (fun i=>enc_3 (places.get i)))))),(8,.one (.c (.p (.int .i64 kinkv5)))),(55,.one (.c (.p (.int .i64 (w64 ((heights.len:Int) - (2:Int))))))),(56,.one (.c (.p (.int .i64 t56v5))))],[],[]⟩
def f44_at5 (K:List PA→Prop) (heights:(Sl Int)) (places:(Sl Int)) (kinkv5:Int) (t56v5:Int):Prop:=vc Try.prog G44 ann44 (cdF Try.f44 [1,1,1,1,0,1,0]) (blockK 2 (sqK Try.prog G44 ann44 (cdF Try.f44 [1,1,1,1,1]) (bodyK Try.prog Try.f44 K))) (f44_g5 heights places kinkv5 t56v5)
theorem f44_top (heights : (Sl Int)) (places : (Sl Int)) (K : List PA → Prop) :
  vcFun Try.prog G44 ann44 44 [.one (.sl heights.len 1 (fun i=>enc_3 (heights.get i))),.one (.sl places.len 1 (fun i=>enc_3 (places.get i)))] K =
  (condP (!(s74 (heights.len : Int) (2:Int) (8:Int)))
   (f44_at0 K heights places true)
   (f44_at0 K heights places ((places.len:Int) != (heights.len:Int)))):=by kernel_rfl
theorem f44_eq0 (K : List PA → Prop) (heights : (Sl Int)) (places : (Sl Int)) (t20v0 : Bool) :
  f44_at0 K heights places t20v0 =
  (condP t20v0
   (K [.one (.int .i64 (0:Int)),.one (.int .i64 (2:Int))])
   (f44_at1 K heights places)):=by kernel_rfl
theorem f44_eq1 (K : List PA → Prop) (heights : (Sl Int)) (places : (Sl Int)) :
  f44_at1 K heights places =
  (f44_at2 K heights places (0:Int)):=by kernel_rfl
def f44_step2 (K:List PA→Prop) (X2:St→Prop) (heights:(Sl Int)) (places:(Sl Int)) (t23v2:Int):Prop :=
  (condP (decide (t23v2 < (heights.len : Int)))
   (((0≤t23v2∧t23v2 < (heights.len:Int))) ∧
   (condP (!(s74 (heights.get t23v2.toNat) (0:Int) (100000:Int)))
    (f44_at3 K X2 heights places t23v2 true)
    (condP (decide (t23v2 > (0:Int)))
     (((0≤(w64 (t23v2 - (1:Int)))∧(w64 (t23v2 - (1:Int))) < (heights.len:Int))) ∧
     (condP (decide ((heights.get t23v2.toNat) ≤ (heights.get ((w64 (t23v2 - (1:Int))).toNat))))
      (f44_at3 K X2 heights places t23v2 true)
      (((0≤t23v2∧t23v2 < (places.len:Int))) ∧
      (f44_at3 K X2 heights places t23v2 (!(s74 (places.get t23v2.toNat) (-1000000:Int) (1000000:Int)))))))
     (((0≤t23v2∧t23v2 < (places.len:Int))) ∧
     (f44_at3 K X2 heights places t23v2 (!(s74 (places.get t23v2.toNat) (-1000000:Int) (1000000:Int))))))))
   (f44_at4 K heights places))
theorem f44_stepeq2 (K : List PA → Prop) (X2 : St → Prop) (heights : (Sl Int)) (places : (Sl Int)) (t23v2 : Int) :
  vc Try.prog G44 ann44 (cd (cdF Try.f44 [1,1,0,1,0]) [0]) (loopK Try.prog ann44 4 X2 (blockK 0 (sqK Try.prog G44 ann44 (cdF Try.f44 [1,1,1]) (bodyK Try.prog Try.f44 K)))) (f44_g2 heights places t23v2) =
  f44_step2 K X2 heights places t23v2:=by kernel_rfl
theorem f44_loop2 (K : List PA → Prop) (heights : (Sl Int)) (places : (Sl Int)) (t23v2 : Int)
  (h:∀ X2:St→Prop,(∀ (t23v2:Int),f44_step2 K X2 heights places t23v2→X2 (f44_g2 heights places t23v2))→X2 (f44_g2 heights places t23v2)) :
  f44_at2 K heights places t23v2:=by
  have e:f44_at2 K heights places t23v2=(∀ X:St→Prop,(∀ s,vc Try.prog G44 ann44 (cd (cdF Try.f44 [1,1,0,1,0]) [0]) (loopK Try.prog ann44 4 X (blockK 0 (sqK Try.prog G44 ann44 (cdF Try.f44 [1,1,1]) (bodyK Try.prog Try.f44 K)))) s→X s)→X (f44_g2 heights places t23v2)):=by kernel_rfl
  refine ofEq e ?_
  intro X hX
  refine h X ?_
  intro t23v2 hs
  refine hX _ ?_
  have e2:=f44_stepeq2 K X heights places t23v2
  rw [e2]
  exact hs
theorem f44_eq3 (K : List PA → Prop) (X2 : St → Prop) (heights : (Sl Int)) (places : (Sl Int)) (t23v3 : Int) (t51v3 : Bool) :
  f44_at3 K X2 heights places t23v3 t51v3 =
  (condP t51v3
   (K [.one (.int .i64 (0:Int)),.one (.int .i64 (2:Int))])
   (X2 (f44_g2 heights places (w64 (t23v3+(1:Int)))))):=by kernel_rfl
theorem f44_eq4 (K : List PA → Prop) (heights : (Sl Int)) (places : (Sl Int)) :
  f44_at4 K heights places =
  (f44_at5 K heights places (0:Int) (0:Int)):=by kernel_rfl
def f44_step5 (K:List PA→Prop) (X5:St→Prop) (heights:(Sl Int)) (places:(Sl Int)) (kinkv5:Int) (t56v5:Int):Prop :=
  (condP (decide (t56v5 < (w64 ((heights.len : Int) - (2:Int)))))
   (((0≤t56v5∧t56v5 < (heights.len:Int))) ∧
   (((0≤(w64 (t56v5+(1:Int)))∧(w64 (t56v5+(1:Int))) < (heights.len:Int))) ∧
   (((0≤(w64 (t56v5+(2:Int)))∧(w64 (t56v5+(2:Int))) < (heights.len:Int))) ∧
   (((0≤t56v5∧t56v5 < (places.len:Int))) ∧
   (((0≤(w64 (t56v5+(1:Int)))∧(w64 (t56v5+(1:Int))) < (places.len:Int))) ∧
   (((0≤(w64 (t56v5+(2:Int)))∧(w64 (t56v5+(2:Int))) < (places.len:Int))) ∧
   (((p85 (heights.get t56v5.toNat) (heights.get ((w64 (t56v5+(1:Int))).toNat)) (heights.get ((w64 (t56v5+(2:Int))).toNat)) (places.get t56v5.toNat) (places.get ((w64 (t56v5+(1:Int))).toNat)) (places.get ((w64 (t56v5+(2:Int))).toNat))=true)) ∧
   (X5 (f44_g5 heights places (if (s85 (heights.get t56v5.toNat) (heights.get ((w64 (t56v5+(1:Int))).toNat)) (heights.get ((w64 (t56v5+(2:Int))).toNat)) (places.get t56v5.toNat) (places.get ((w64 (t56v5+(1:Int))).toNat)) (places.get ((w64 (t56v5+(2:Int))).toNat))) > kinkv5 then (s85 (heights.get t56v5.toNat) (heights.get ((w64 (t56v5+(1:Int))).toNat)) (heights.get ((w64 (t56v5+(2:Int))).toNat)) (places.get t56v5.toNat) (places.get ((w64 (t56v5+(1:Int))).toNat)) (places.get ((w64 (t56v5+(2:Int))).toNat))) else kinkv5) (w64 (t56v5+(1:Int))))))))))))
   (K [.one (.int .i64 kinkv5),.one (.int .i64 (0:Int))]))
theorem f44_stepeq5 (K : List PA → Prop) (X5 : St → Prop) (heights : (Sl Int)) (places : (Sl Int)) (kinkv5 : Int) (t56v5 : Int) :
  vc Try.prog G44 ann44 (cd (cdF Try.f44 [1,1,1,1,0,1,0]) [0]) (loopK Try.prog ann44 11 X5 (blockK 2 (sqK Try.prog G44 ann44 (cdF Try.f44 [1,1,1,1,1]) (bodyK Try.prog Try.f44 K)))) (f44_g5 heights places kinkv5 t56v5) =
  f44_step5 K X5 heights places kinkv5 t56v5:=by kernel_rfl
theorem f44_loop5 (K : List PA → Prop) (heights : (Sl Int)) (places : (Sl Int)) (kinkv5 : Int) (t56v5 : Int)
  (h:∀ X5:St→Prop,(∀ (kinkv5:Int) (t56v5:Int),f44_step5 K X5 heights places kinkv5 t56v5→X5 (f44_g5 heights places kinkv5 t56v5))→X5 (f44_g5 heights places kinkv5 t56v5)) :
  f44_at5 K heights places kinkv5 t56v5:=by
  have e:f44_at5 K heights places kinkv5 t56v5=(∀ X:St→Prop,(∀ s,vc Try.prog G44 ann44 (cd (cdF Try.f44 [1,1,1,1,0,1,0]) [0]) (loopK Try.prog ann44 11 X (blockK 2 (sqK Try.prog G44 ann44 (cdF Try.f44 [1,1,1,1,1]) (bodyK Try.prog Try.f44 K)))) s→X s)→X (f44_g5 heights places kinkv5 t56v5)):=by kernel_rfl
  refine ofEq e ?_
  intro X hX
  refine h X ?_
  intro kinkv5 t56v5 hs
  refine hX _ ?_
  have e2:=f44_stepeq5 K X heights places kinkv5 t56v5
  rw [e2]
  exact hs
abbrev e44 (r:(Int×Int)):List PA:=[.one (.int .i64 r.1),.one (.int .i64 r.2)]
attribute [irreducible] f44_at0 f44_at1 f44_at2 f44_at3 f44_at4 f44_at5
def s44_st5 (heights:(Sl Int)) (places:(Sl Int)) (S5:Int→Int→(Int×Int)) (kinkv5:Int) (t56v5:Int):(Int×Int) :=
  (cond (decide (t56v5 < (w64 ((heights.len : Int) - (2:Int)))))
   (S5 (if (s85 (heights.get t56v5.toNat) (heights.get ((w64 (t56v5+(1:Int))).toNat)) (heights.get ((w64 (t56v5+(2:Int))).toNat)) (places.get t56v5.toNat) (places.get ((w64 (t56v5+(1:Int))).toNat)) (places.get ((w64 (t56v5+(2:Int))).toNat))) > kinkv5 then (s85 (heights.get t56v5.toNat) (heights.get ((w64 (t56v5+(1:Int))).toNat)) (heights.get ((w64 (t56v5+(2:Int))).toNat)) (places.get t56v5.toNat) (places.get ((w64 (t56v5+(1:Int))).toNat)) (places.get ((w64 (t56v5+(2:Int))).toNat))) else kinkv5) (w64 (t56v5+(1:Int))))
   (kinkv5,(0:Int)))
def p44_st5 (heights:(Sl Int)) (places:(Sl Int)) (P5:Int→Int→Bool) (kinkv5:Int) (t56v5:Int):Bool :=
  (cond (decide (t56v5 < (w64 ((heights.len : Int) - (2:Int)))))
   (decide ((0≤t56v5∧t56v5 < (heights.len:Int))) &&
   (decide ((0≤(w64 (t56v5+(1:Int)))∧(w64 (t56v5+(1:Int))) < (heights.len:Int))) &&
   (decide ((0≤(w64 (t56v5+(2:Int)))∧(w64 (t56v5+(2:Int))) < (heights.len:Int))) &&
   (decide ((0≤t56v5∧t56v5 < (places.len:Int))) &&
   (decide ((0≤(w64 (t56v5+(1:Int)))∧(w64 (t56v5+(1:Int))) < (places.len:Int))) &&
   (decide ((0≤(w64 (t56v5+(2:Int)))∧(w64 (t56v5+(2:Int))) < (places.len:Int))) &&
   (decide ((p85 (heights.get t56v5.toNat) (heights.get ((w64 (t56v5+(1:Int))).toNat)) (heights.get ((w64 (t56v5+(2:Int))).toNat)) (places.get t56v5.toNat) (places.get ((w64 (t56v5+(1:Int))).toNat)) (places.get ((w64 (t56v5+(2:Int))).toNat))=true)) &&
   (P5 (if (s85 (heights.get t56v5.toNat) (heights.get ((w64 (t56v5+(1:Int))).toNat)) (heights.get ((w64 (t56v5+(2:Int))).toNat)) (places.get t56v5.toNat) (places.get ((w64 (t56v5+(1:Int))).toNat)) (places.get ((w64 (t56v5+(2:Int))).toNat))) > kinkv5 then (s85 (heights.get t56v5.toNat) (heights.get ((w64 (t56v5+(1:Int))).toNat)) (heights.get ((w64 (t56v5+(2:Int))).toNat)) (places.get t56v5.toNat) (places.get ((w64 (t56v5+(1:Int))).toNat)) (places.get ((w64 (t56v5+(2:Int))).toNat))) else kinkv5) (w64 (t56v5+(1:Int)))))))))))
   true)
def s44_lp5 (heights : (Sl Int)) (places : (Sl Int)) : Nat → Int → Int → (Int × Int)
  | 0=>fun _ _=>default
  | k+1=>s44_st5 heights places (s44_lp5 heights places k)
def p44_lp5 (heights : (Sl Int)) (places : (Sl Int)) : Nat → Int → Int → Bool
  | 0=>fun _ _=>false
  | k+1=>p44_st5 heights places (p44_lp5 heights places k)
def s44_at5 (heights:(Sl Int)) (places:(Sl Int)) (kinkv5:Int) (t56v5:Int):(Int×Int):=s44_lp5 heights places Fuel kinkv5 t56v5
def p44_at5 (heights:(Sl Int)) (places:(Sl Int)) (kinkv5:Int) (t56v5:Int):Bool:=p44_lp5 heights places Fuel kinkv5 t56v5
theorem q44_at5 (K:List PA→Prop) (heights:(Sl Int)) (places:(Sl Int)) (kinkv5:Int) (t56v5:Int) (hs:p44_at5 heights places kinkv5 t56v5=true) (hk:K (e44 (s44_at5 heights places kinkv5 t56v5))):f44_at5 K heights places kinkv5 t56v5:=by
  refine f44_loop5 K heights places kinkv5 t56v5 ?_
  intro X5 hstep
  have key:∀ (k:Nat) (kinkv5:Int) (t56v5:Int),p44_lp5 heights places k kinkv5 t56v5=true→K (e44 (s44_lp5 heights places k kinkv5 t56v5))→X5 (f44_g5 heights places kinkv5 t56v5):=by
    intro k
    induction k with
    | zero=>intro kinkv5 t56v5 hs;exact absurd hs Bool.false_ne_true
    | succ k ih =>
      intro kinkv5 t56v5 hs hk
      refine hstep kinkv5 t56v5 ?_
      have hs:p44_st5 heights places (p44_lp5 heights places k) kinkv5 t56v5=true:=hs
      have hk:K (e44 (s44_st5 heights places (s44_lp5 heights places k) kinkv5 t56v5)):=hk
      unfold p44_st5 at hs
      unfold s44_st5 at hk
      generalize s44_lp5 heights places k=S5 at hk ih
      generalize p44_lp5 heights places k=P5 at hs ih
      have hX5:=ih
      exact (condB_go (K := fun r => K (e44 r))
       (fun hs hk=>(andK hs fun hc hs=>⟨hc,(andK hs fun hc hs=>⟨hc,(andK hs fun hc hs=>⟨hc,(andK hs fun hc hs=>⟨hc,(andK hs fun hc hs=>⟨hc,(andK hs fun hc hs=>⟨hc,(andK hs fun hc hs=>⟨hc,(hX5 (if (s85 (heights.get t56v5.toNat) (heights.get ((w64 (t56v5+(1:Int))).toNat)) (heights.get ((w64 (t56v5+(2:Int))).toNat)) (places.get t56v5.toNat) (places.get ((w64 (t56v5+(1:Int))).toNat)) (places.get ((w64 (t56v5+(2:Int))).toNat))) > kinkv5 then (s85 (heights.get t56v5.toNat) (heights.get ((w64 (t56v5+(1:Int))).toNat)) (heights.get ((w64 (t56v5+(2:Int))).toNat)) (places.get t56v5.toNat) (places.get ((w64 (t56v5+(1:Int))).toNat)) (places.get ((w64 (t56v5+(2:Int))).toNat))) else kinkv5) (w64 (t56v5+(1:Int))) hs hk)⟩)⟩)⟩)⟩)⟩)⟩)⟩))
       (fun hs hk=>hk) hs hk)
  exact key _ kinkv5 t56v5 hs hk
def s44_at4 (heights:(Sl Int)) (places:(Sl Int)):(Int×Int) :=
  (s44_at5 heights places (0:Int) (0:Int))
def p44_at4 (heights:(Sl Int)) (places:(Sl Int)):Bool :=
  (p44_at5 heights places (0:Int) (0:Int))
theorem q44_at4 (K:List PA→Prop) (heights:(Sl Int)) (places:(Sl Int)) (hs:p44_at4 heights places=true) (hk:K (e44 (s44_at4 heights places))):f44_at4 K heights places:=by
  refine ofEq (f44_eq4 K heights places) ?_
  unfold p44_at4 at hs
  unfold s44_at4 at hk
  exact (q44_at5 K heights places (0:Int) (0:Int) hs hk)
def s44_at3 (S2:Int→(Int×Int)) (heights:(Sl Int)) (places:(Sl Int)) (t23v3:Int) (t51v3:Bool):(Int×Int) :=
  (cond t51v3
   ((0:Int),(2:Int))
   (S2 (w64 (t23v3+(1:Int)))))
def p44_at3 (P2:Int→Bool) (heights:(Sl Int)) (places:(Sl Int)) (t23v3:Int) (t51v3:Bool):Bool :=
  (cond t51v3
   true
   (P2 (w64 (t23v3+(1:Int)))))
theorem q44_at3 (K : List PA → Prop) (heights : (Sl Int)) (places : (Sl Int))
  (X2:St→Prop) (P2:Int→Bool) (S2:Int→(Int×Int))
  (hX2:∀ (t23v2:Int),P2 t23v2=true→K (e44 (S2 t23v2))→X2 (f44_g2 heights places t23v2)) (t23v3:Int) (t51v3:Bool) (hs:p44_at3 P2 heights places t23v3 t51v3=true) (hk:K (e44 (s44_at3 S2 heights places t23v3 t51v3))):f44_at3 K X2 heights places t23v3 t51v3:=by
  refine ofEq (f44_eq3 K X2 heights places t23v3 t51v3) ?_
  unfold p44_at3 at hs
  unfold s44_at3 at hk
  exact (condB_go (K := fun r => K (e44 r))
   (fun hs hk=>hk)
   (fun hs hk=>(hX2 (w64 (t23v3+(1:Int))) hs hk)) hs hk)
def s44_st2 (heights:(Sl Int)) (places:(Sl Int)) (S2:Int→(Int×Int)) (t23v2:Int):(Int×Int) :=
  (cond (decide (t23v2 < (heights.len : Int)))
   (cond (!(s74 (heights.get t23v2.toNat) (0:Int) (100000:Int)))
    (s44_at3 S2 heights places t23v2 true)
    (cond (decide (t23v2 > (0:Int)))
     (cond (decide ((heights.get t23v2.toNat) ≤ (heights.get ((w64 (t23v2 - (1:Int))).toNat))))
      (s44_at3 S2 heights places t23v2 true)
      (s44_at3 S2 heights places t23v2 (!(s74 (places.get t23v2.toNat) (-1000000:Int) (1000000:Int)))))
     (s44_at3 S2 heights places t23v2 (!(s74 (places.get t23v2.toNat) (-1000000:Int) (1000000:Int))))))
   (s44_at4 heights places))
def p44_st2 (heights:(Sl Int)) (places:(Sl Int)) (P2:Int→Bool) (t23v2:Int):Bool :=
  (cond (decide (t23v2 < (heights.len : Int)))
   (decide ((0≤t23v2∧t23v2 < (heights.len:Int))) &&
   (cond (!(s74 (heights.get t23v2.toNat) (0:Int) (100000:Int)))
    (p44_at3 P2 heights places t23v2 true)
    (cond (decide (t23v2 > (0:Int)))
     (decide ((0≤(w64 (t23v2 - (1:Int)))∧(w64 (t23v2 - (1:Int))) < (heights.len:Int))) &&
     (cond (decide ((heights.get t23v2.toNat) ≤ (heights.get ((w64 (t23v2 - (1:Int))).toNat))))
      (p44_at3 P2 heights places t23v2 true)
      (decide ((0≤t23v2∧t23v2 < (places.len:Int))) &&
      (p44_at3 P2 heights places t23v2 (!(s74 (places.get t23v2.toNat) (-1000000:Int) (1000000:Int)))))))
     (decide ((0≤t23v2∧t23v2 < (places.len:Int))) &&
     (p44_at3 P2 heights places t23v2 (!(s74 (places.get t23v2.toNat) (-1000000:Int) (1000000:Int))))))))
   (p44_at4 heights places))
def s44_lp2 (heights : (Sl Int)) (places : (Sl Int)) : Nat → Int → (Int × Int)
  | 0=>fun _=>default
  | k+1=>s44_st2 heights places (s44_lp2 heights places k)
def p44_lp2 (heights : (Sl Int)) (places : (Sl Int)) : Nat → Int → Bool
  | 0=>fun _=>false
  | k+1=>p44_st2 heights places (p44_lp2 heights places k)
def s44_at2 (heights:(Sl Int)) (places:(Sl Int)) (t23v2:Int):(Int×Int):=s44_lp2 heights places Fuel t23v2
def p44_at2 (heights:(Sl Int)) (places:(Sl Int)) (t23v2:Int):Bool:=p44_lp2 heights places Fuel t23v2
theorem q44_at2 (K:List PA→Prop) (heights:(Sl Int)) (places:(Sl Int)) (t23v2:Int) (hs:p44_at2 heights places t23v2=true) (hk:K (e44 (s44_at2 heights places t23v2))):f44_at2 K heights places t23v2:=by
  refine f44_loop2 K heights places t23v2 ?_
  intro X2 hstep
  have key:∀ (k:Nat) (t23v2:Int),p44_lp2 heights places k t23v2=true→K (e44 (s44_lp2 heights places k t23v2))→X2 (f44_g2 heights places t23v2):=by
    intro k
    induction k with
    | zero=>intro t23v2 hs;exact absurd hs Bool.false_ne_true
    | succ k ih =>
      intro t23v2 hs hk
      refine hstep t23v2 ?_
      have hs:p44_st2 heights places (p44_lp2 heights places k) t23v2=true:=hs
      have hk:K (e44 (s44_st2 heights places (s44_lp2 heights places k) t23v2)):=hk
      unfold p44_st2 at hs
      unfold s44_st2 at hk
      generalize s44_lp2 heights places k=S2 at hk ih
      generalize p44_lp2 heights places k=P2 at hs ih
      have hX2:=ih
      exact (condB_go (K := fun r => K (e44 r))
       (fun hs hk => (andK hs fun hc hs => ⟨hc, (condB_go (K := fun r => K (e44 r))
        (fun hs hk=>(q44_at3 K heights places X2 P2 S2 hX2 t23v2 true hs hk))
        (fun hs hk => (condB_go (K := fun r => K (e44 r))
         (fun hs hk => (andK hs fun hc hs => ⟨hc, (condB_go (K := fun r => K (e44 r))
          (fun hs hk=>(q44_at3 K heights places X2 P2 S2 hX2 t23v2 true hs hk))
          (fun hs hk=>(andK hs fun hc hs=>⟨hc,(q44_at3 K heights places X2 P2 S2 hX2 t23v2 (!(s74 (places.get t23v2.toNat) (-1000000:Int) (1000000:Int))) hs hk)⟩)) hs hk)⟩))
         (fun hs hk=>(andK hs fun hc hs=>⟨hc,(q44_at3 K heights places X2 P2 S2 hX2 t23v2 (!(s74 (places.get t23v2.toNat) (-1000000:Int) (1000000:Int))) hs hk)⟩)) hs hk)) hs hk)⟩))
       (fun hs hk=>(q44_at4 K heights places hs hk)) hs hk)
  exact key _ t23v2 hs hk
def s44_at1 (heights:(Sl Int)) (places:(Sl Int)):(Int×Int) :=
  (s44_at2 heights places (0:Int))
def p44_at1 (heights:(Sl Int)) (places:(Sl Int)):Bool :=
  (p44_at2 heights places (0:Int))
theorem q44_at1 (K:List PA→Prop) (heights:(Sl Int)) (places:(Sl Int)) (hs:p44_at1 heights places=true) (hk:K (e44 (s44_at1 heights places))):f44_at1 K heights places:=by
  refine ofEq (f44_eq1 K heights places) ?_
  unfold p44_at1 at hs
  unfold s44_at1 at hk
  exact (q44_at2 K heights places (0:Int) hs hk)
def s44_at0 (heights:(Sl Int)) (places:(Sl Int)) (t20v0:Bool):(Int×Int) :=
  (cond t20v0
   ((0:Int),(2:Int))
   (s44_at1 heights places))
def p44_at0 (heights:(Sl Int)) (places:(Sl Int)) (t20v0:Bool):Bool :=
  (cond t20v0
   true
   (p44_at1 heights places))
theorem q44_at0 (K:List PA→Prop) (heights:(Sl Int)) (places:(Sl Int)) (t20v0:Bool) (hs:p44_at0 heights places t20v0=true) (hk:K (e44 (s44_at0 heights places t20v0))):f44_at0 K heights places t20v0:=by
  refine ofEq (f44_eq0 K heights places t20v0) ?_
  unfold p44_at0 at hs
  unfold s44_at0 at hk
  exact (condB_go (K := fun r => K (e44 r))
   (fun hs hk=>hk)
   (fun hs hk=>(q44_at1 K heights places hs hk)) hs hk)
def s44 (heights:(Sl Int)) (places:(Sl Int)):(Int×Int) :=
  (cond (!(s74 (heights.len : Int) (2:Int) (8:Int)))
   (s44_at0 heights places true)
   (s44_at0 heights places ((places.len:Int) != (heights.len:Int))))
def p44 (heights:(Sl Int)) (places:(Sl Int)):Bool :=
  (cond (!(s74 (heights.len : Int) (2:Int) (8:Int)))
   (p44_at0 heights places true)
   (p44_at0 heights places ((places.len:Int) != (heights.len:Int))))
theorem q44 (heights:(Sl Int)) (places:(Sl Int)) (K:List PA→Prop) (hs:p44 heights places=true) (hk:K (e44 (s44 heights places))):vcFun Try.prog G44 ann44 44 [.one (.sl heights.len 1 (fun i=>enc_3 (heights.get i))),.one (.sl places.len 1 (fun i=>enc_3 (places.get i)))] K:=by
  refine ofEq (f44_top heights places K) ?_
  unfold p44 at hs
  unfold s44 at hk
  exact (condB_go (K := fun r => K (e44 r))
   (fun hs hk=>(q44_at0 K heights places true hs hk))
   (fun hs hk=>(q44_at0 K heights places ((places.len:Int) != (heights.len:Int)) hs hk)) hs hk)
def ctr44 : List PA → COut
  | [.one (.sl a0_n a0_s a0_g),.one (.sl a1_n a1_s a1_g)]=>.det (IsE enc_3 1 a0_s a0_g∧IsE enc_3 1 a1_s a1_g∧p44 (⟨a0_n,decF_3 a0_g⟩:(Sl Int)) (⟨a1_n,decF_3 a1_g⟩:(Sl Int))=true) [.one (.int .i64 ((s44 (⟨a0_n,decF_3 a0_g⟩:(Sl Int)) (⟨a1_n,decF_3 a1_g⟩:(Sl Int))).1)),.one (.int .i64 ((s44 (⟨a0_n,decF_3 a0_g⟩:(Sl Int)) (⟨a1_n,decF_3 a1_g⟩:(Sl Int))).2))]
  | _=>.no
theorem call44:Callable Try.prog 44:=⟨_,rfl,rfl,by kernel_rfl⟩
theorem ok44:Ok Try.prog 44 ctr44:=ok_tab okT44 call44 fun args K h=>by
  unfold ctr44 at h
  split at h
  · rename_i a0_n a0_s a0_g a1_n a1_s a1_g
    obtain ⟨⟨⟨rfl,a0_f,rfl⟩,⟨rfl,a1_f,rfl⟩,hs⟩,hk⟩:=h
    try rw [decF_enc_3 a0_f] at hs
    try rw [decF_enc_3 a0_f] at hk
    try rw [decF_enc_3 a1_f] at hs
    try rw [decF_enc_3 a1_f] at hk
    exact ⟨(fun _ _=>[]),(fun _=>false),ann44,q44 (⟨a0_n,a0_f⟩:(Sl Int)) (⟨a1_n,a1_f⟩:(Sl Int)) K hs hk⟩
  · exact h.elim
abbrev T45:Tabs:=(Tabs.nil.addF 70 ctr70)
theorem okT45:TabsOk Try.prog T45:=(TabsOk.nil.addF ok70)
abbrev G45:Ctrs:=csm T45 (fun _ _=>[]) (fun _=>false)
def ann45:Ann:=⟨35,[(0,⟨[0],[],[],[],[],[],[]⟩),(1,⟨[0,3],[],[],[],[],[],[]⟩),(2,⟨[0,3,7],[],[],[],[],[],[]⟩),(3,⟨[0,3],[],[],[],[],[],[]⟩),(4,⟨[0,3,31],[],[],[],[],[],[]⟩),(5,⟨[2],[],[],[],[],[],[]⟩),(6,⟨[2],[],[],[],[],[],[]⟩)],
  [(2,⟨[0,3],[],[],[],[],[],[]⟩)],
  [(5,⟨[0,3,31],[],[],[],[],[],[]⟩)],
  [],[]⟩
def f45_g0 (l_a0:(Sl Int)) (iv0:Int):St:=⟨[(0,.one (.c (.p (.sl l_a0.len 1 (fun i=>enc_3 (l_a0.get i)))))),(3,.one (.c (.p (.int .i64 iv0))))],[],[]⟩
def f45_at0 (K:List PA→Prop) (l_a0:(Sl Int)) (iv0:Int):Prop:=vc Try.prog G45 ann45 (cdF Try.f45 [1,0,1,0]) (blockK 0 (sqK Try.prog G45 ann45 (cdF Try.f45 [1,1]) (bodyK Try.prog Try.f45 K))) (f45_g0 l_a0 iv0)
def f45_g1 (l_a0:(Sl Int)) (iv1:Int) (t31v1:Bool):St:=⟨[(0,.one (.c (.p (.sl l_a0.len 1 (fun i=>enc_3 (l_a0.get i)))))),(3,.one (.c (.p (.int .i64 iv1)))),(31,.one (.c (.p (.bool t31v1))))],[],[]⟩
def f45_at1 (K:List PA→Prop) (X0:St→Prop) (l_a0:(Sl Int)) (iv1:Int) (t31v1:Bool):Prop:=vc Try.prog G45 ann45 (cdF Try.f45 [1,0,1,0,0,1,0,0,1]) (blockK 1 (sqK Try.prog G45 ann45 (cdF Try.f45 [1,0,1,0,0,1,1]) (loopK Try.prog ann45 2 X0 (blockK 0 (sqK Try.prog G45 ann45 (cdF Try.f45 [1,1]) (bodyK Try.prog Try.f45 K)))))) (f45_g1 l_a0 iv1 t31v1)
theorem f45_top (l_a0 : (Sl Int)) (K : List PA → Prop) :
  vcFun Try.prog G45 ann45 45 [.one (.sl l_a0.len 1 (fun i=>enc_3 (l_a0.get i)))] K =
  (f45_at0 K l_a0 (0:Int)):=by kernel_rfl
def f45_step0 (K:List PA→Prop) (X0:St→Prop) (l_a0:(Sl Int)) (iv0:Int):Prop :=
  (condP (decide (iv0 < (l_a0.len : Int)))
   (((0≤iv0∧iv0 < (l_a0.len:Int))) ∧
   (condP (!(s70 (l_a0.get iv0.toNat) (0:Int) (100000:Int)))
    (f45_at1 K X0 l_a0 iv0 true)
    (condP (decide (iv0 > (0:Int)))
     (((0≤iv0∧iv0 < (l_a0.len:Int))) ∧
     (((0≤(w64 (iv0 - (1:Int)))∧(w64 (iv0 - (1:Int))) < (l_a0.len:Int))) ∧
     (f45_at1 K X0 l_a0 iv0 (decide ((l_a0.get iv0.toNat)≤(l_a0.get ((w64 (iv0 - (1:Int))).toNat)))))))
     (f45_at1 K X0 l_a0 iv0 false))))
   (K [.one (.bool (s70 (l_a0.len:Int) (2:Int) (8:Int)))]))
theorem f45_stepeq0 (K : List PA → Prop) (X0 : St → Prop) (l_a0 : (Sl Int)) (iv0 : Int) :
  vc Try.prog G45 ann45 (cd (cdF Try.f45 [1,0,1,0]) [0]) (loopK Try.prog ann45 2 X0 (blockK 0 (sqK Try.prog G45 ann45 (cdF Try.f45 [1,1]) (bodyK Try.prog Try.f45 K)))) (f45_g0 l_a0 iv0) =
  f45_step0 K X0 l_a0 iv0:=by kernel_rfl
theorem f45_loop0 (K : List PA → Prop) (l_a0 : (Sl Int)) (iv0 : Int)
  (h:∀ X0:St→Prop,(∀ (iv0:Int),f45_step0 K X0 l_a0 iv0→X0 (f45_g0 l_a0 iv0))→X0 (f45_g0 l_a0 iv0)) :
  f45_at0 K l_a0 iv0:=by
  have e:f45_at0 K l_a0 iv0=(∀ X:St→Prop,(∀ s,vc Try.prog G45 ann45 (cd (cdF Try.f45 [1,0,1,0]) [0]) (loopK Try.prog ann45 2 X (blockK 0 (sqK Try.prog G45 ann45 (cdF Try.f45 [1,1]) (bodyK Try.prog Try.f45 K)))) s→X s)→X (f45_g0 l_a0 iv0)):=by kernel_rfl
  refine ofEq e ?_
  intro X hX
  refine h X ?_
  intro iv0 hs
  refine hX _ ?_
  have e2:=f45_stepeq0 K X l_a0 iv0
  rw [e2]
  exact hs
theorem f45_eq1 (K : List PA → Prop) (X0 : St → Prop) (l_a0 : (Sl Int)) (iv1 : Int) (t31v1 : Bool) :
  f45_at1 K X0 l_a0 iv1 t31v1 =
  (condP t31v1
   (K [.one (.bool false)])
   (X0 (f45_g0 l_a0 (w64 (iv1+(1:Int)))))):=by kernel_rfl
abbrev e45 (r:Bool):List PA:=[.one (.bool r)]
attribute [irreducible] f45_at0 f45_at1
def s45_at1 (S0:Int→Bool) (l_a0:(Sl Int)) (iv1:Int) (t31v1:Bool):Bool :=
  (cond t31v1
   false
   (S0 (w64 (iv1+(1:Int)))))
def p45_at1 (P0:Int→Bool) (l_a0:(Sl Int)) (iv1:Int) (t31v1:Bool):Bool :=
  (cond t31v1
   true
   (P0 (w64 (iv1+(1:Int)))))
theorem q45_at1 (K : List PA → Prop) (l_a0 : (Sl Int))
  (X0:St→Prop) (P0:Int→Bool) (S0:Int→Bool)
  (hX0:∀ (iv0:Int),P0 iv0=true→K (e45 (S0 iv0))→X0 (f45_g0 l_a0 iv0)) (iv1:Int) (t31v1:Bool) (hs:p45_at1 P0 l_a0 iv1 t31v1=true) (hk:K (e45 (s45_at1 S0 l_a0 iv1 t31v1))):f45_at1 K X0 l_a0 iv1 t31v1:=by
  refine ofEq (f45_eq1 K X0 l_a0 iv1 t31v1) ?_
  unfold p45_at1 at hs
  unfold s45_at1 at hk
  exact (condB_go (K := fun r => K (e45 r))
   (fun hs hk=>hk)
   (fun hs hk=>(hX0 (w64 (iv1+(1:Int))) hs hk)) hs hk)
def s45_st0 (l_a0:(Sl Int)) (S0:Int→Bool) (iv0:Int):Bool :=
  (cond (decide (iv0 < (l_a0.len : Int)))
   (cond (!(s70 (l_a0.get iv0.toNat) (0:Int) (100000:Int)))
    (s45_at1 S0 l_a0 iv0 true)
    (cond (decide (iv0 > (0:Int)))
     (s45_at1 S0 l_a0 iv0 (decide ((l_a0.get iv0.toNat)≤(l_a0.get ((w64 (iv0 - (1:Int))).toNat)))))
     (s45_at1 S0 l_a0 iv0 false)))
   (s70 (l_a0.len:Int) (2:Int) (8:Int)))
def p45_st0 (l_a0:(Sl Int)) (P0:Int→Bool) (iv0:Int):Bool :=
  (cond (decide (iv0 < (l_a0.len : Int)))
   (decide ((0≤iv0∧iv0 < (l_a0.len:Int))) &&
   (cond (!(s70 (l_a0.get iv0.toNat) (0:Int) (100000:Int)))
    (p45_at1 P0 l_a0 iv0 true)
    (cond (decide (iv0 > (0:Int)))
     (decide ((0≤iv0∧iv0 < (l_a0.len:Int))) &&
     (decide ((0≤(w64 (iv0 - (1:Int)))∧(w64 (iv0 - (1:Int))) < (l_a0.len:Int))) &&
     (p45_at1 P0 l_a0 iv0 (decide ((l_a0.get iv0.toNat)≤(l_a0.get ((w64 (iv0 - (1:Int))).toNat)))))))
     (p45_at1 P0 l_a0 iv0 false))))
   true)
def s45_lp0 (l_a0 : (Sl Int)) : Nat → Int → Bool
  | 0=>fun _=>default
  | k+1=>s45_st0 l_a0 (s45_lp0 l_a0 k)
def p45_lp0 (l_a0 : (Sl Int)) : Nat → Int → Bool
  | 0=>fun _=>false
  | k+1=>p45_st0 l_a0 (p45_lp0 l_a0 k)
def s45_at0 (l_a0:(Sl Int)) (iv0:Int):Bool:=s45_lp0 l_a0 Fuel iv0
def p45_at0 (l_a0:(Sl Int)) (iv0:Int):Bool:=p45_lp0 l_a0 Fuel iv0
theorem q45_at0 (K:List PA→Prop) (l_a0:(Sl Int)) (iv0:Int) (hs:p45_at0 l_a0 iv0=true) (hk:K (e45 (s45_at0 l_a0 iv0))):f45_at0 K l_a0 iv0:=by
  refine f45_loop0 K l_a0 iv0 ?_
  intro X0 hstep
  have key:∀ (k:Nat) (iv0:Int),p45_lp0 l_a0 k iv0=true→K (e45 (s45_lp0 l_a0 k iv0))→X0 (f45_g0 l_a0 iv0):=by
    intro k
    induction k with
    | zero=>intro iv0 hs;exact absurd hs Bool.false_ne_true
    | succ k ih =>
      intro iv0 hs hk
      refine hstep iv0 ?_
      have hs:p45_st0 l_a0 (p45_lp0 l_a0 k) iv0=true:=hs
      have hk:K (e45 (s45_st0 l_a0 (s45_lp0 l_a0 k) iv0)):=hk
      unfold p45_st0 at hs
      unfold s45_st0 at hk
      generalize s45_lp0 l_a0 k=S0 at hk ih
      generalize p45_lp0 l_a0 k=P0 at hs ih
      have hX0:=ih
      exact (condB_go (K := fun r => K (e45 r))
       (fun hs hk => (andK hs fun hc hs => ⟨hc, (condB_go (K := fun r => K (e45 r))
        (fun hs hk=>(q45_at1 K l_a0 X0 P0 S0 hX0 iv0 true hs hk))
        (fun hs hk => (condB_go (K := fun r => K (e45 r))
         (fun hs hk=>(andK hs fun hc hs=>⟨hc,(andK hs fun hc hs=>⟨hc,(q45_at1 K l_a0 X0 P0 S0 hX0 iv0 (decide ((l_a0.get iv0.toNat)≤(l_a0.get ((w64 (iv0 - (1:Int))).toNat)))) hs hk)⟩)⟩))
         (fun hs hk=>(q45_at1 K l_a0 X0 P0 S0 hX0 iv0 false hs hk)) hs hk)) hs hk)⟩))
       (fun hs hk=>hk) hs hk)
  exact key _ iv0 hs hk
def s45 (l_a0:(Sl Int)):Bool :=
  (s45_at0 l_a0 (0:Int))
def p45 (l_a0:(Sl Int)):Bool :=
  (p45_at0 l_a0 (0:Int))
theorem q45 (l_a0:(Sl Int)) (K:List PA→Prop) (hs:p45 l_a0=true) (hk:K (e45 (s45 l_a0))):vcFun Try.prog G45 ann45 45 [.one (.sl l_a0.len 1 (fun i=>enc_3 (l_a0.get i)))] K:=by
  refine ofEq (f45_top l_a0 K) ?_
  unfold p45 at hs
  unfold s45 at hk
  exact (q45_at0 K l_a0 (0:Int) hs hk)
def ctr45 : List PA → COut
  | [.one (.sl a0_n a0_s a0_g)]=>.det (IsE enc_3 1 a0_s a0_g∧p45 (⟨a0_n,decF_3 a0_g⟩:(Sl Int))=true) [.one (.bool (s45 (⟨a0_n,decF_3 a0_g⟩:(Sl Int))))]
  | _=>.no
theorem call45:Callable Try.prog 45:=⟨_,rfl,rfl,by kernel_rfl⟩
theorem ok45:Ok Try.prog 45 ctr45:=ok_tab okT45 call45 fun args K h=>by
  unfold ctr45 at h
  split at h
  · rename_i a0_n a0_s a0_g
    obtain ⟨⟨⟨rfl,a0_f,rfl⟩,hs⟩,hk⟩:=h
    try rw [decF_enc_3 a0_f] at hs
    try rw [decF_enc_3 a0_f] at hk
    exact ⟨(fun _ _=>[]),(fun _=>false),ann45,q45 (⟨a0_n,a0_f⟩:(Sl Int)) K hs hk⟩
  · exact h.elim
abbrev T86:Tabs:=Tabs.nil
theorem okT86:TabsOk Try.prog T86:=TabsOk.nil
abbrev G86:Ctrs:=csm T86 (fun _ _=>[]) (fun _=>false)
def ann86:Ann:=⟨47,[(0,⟨[0,1,2,3,4,5],[],[],[],[],[],[]⟩),(1,⟨[0,1,2,13],[],[],[],[],[],[]⟩),(2,⟨[13,14],[],[],[],[],[],[]⟩),(3,⟨[12],[],[],[],[],[],[]⟩)],
  [],
  [],
  [],[]⟩
theorem f86_top (u : Int) (v : Int) (w : Int) (p : Int) (q : Int) (r_a5 : Int) (K : List PA → Prop) :
  vcFun Try.prog G86 ann86 86 [.one (.int .i64 u),.one (.int .i64 v),.one (.int .i64 w),.one (.int .i64 p),.one (.int .i64 q),.one (.int .i64 r_a5)] K =
  ((((w64 ((w64 (v - u)) * (w64 (w - v)))) ≠ 0)) ∧
  (K [.one (.int .i64 (w64 ((w64 ((w64 ((w64 ((1000:Int) * (if (w64 (0 - (w64 ((w64 ((w64 (r_a5 - q)) * (w64 (v - u)))) - (w64 ((w64 (q - p)) * (w64 (w - v)))))))) > (w64 ((w64 ((w64 (r_a5 - q)) * (w64 (v - u)))) - (w64 ((w64 (q - p)) * (w64 (w - v)))))) then (w64 (0 - (w64 ((w64 ((w64 (r_a5 - q)) * (w64 (v - u)))) - (w64 ((w64 (q - p)) * (w64 (w - v)))))))) else (w64 ((w64 ((w64 (r_a5 - q)) * (w64 (v - u)))) - (w64 ((w64 (q - p)) * (w64 (w - v)))))))))+(w64 ((w64 (v - u)) * (w64 (w - v)))))) - (1:Int))).tdiv (w64 ((w64 (v - u)) * (w64 (w - v)))))))])):=by kernel_rfl
abbrev e86 (r:Int):List PA:=[.one (.int .i64 r)]
def s86 (u:Int) (v:Int) (w:Int) (p:Int) (q:Int) (r_a5:Int):Int :=
  (w64 ((w64 ((w64 ((w64 ((1000:Int) * (if (w64 (0 - (w64 ((w64 ((w64 (r_a5 - q)) * (w64 (v - u)))) - (w64 ((w64 (q - p)) * (w64 (w - v)))))))) > (w64 ((w64 ((w64 (r_a5 - q)) * (w64 (v - u)))) - (w64 ((w64 (q - p)) * (w64 (w - v)))))) then (w64 (0 - (w64 ((w64 ((w64 (r_a5 - q)) * (w64 (v - u)))) - (w64 ((w64 (q - p)) * (w64 (w - v)))))))) else (w64 ((w64 ((w64 (r_a5 - q)) * (w64 (v - u)))) - (w64 ((w64 (q - p)) * (w64 (w - v)))))))))+(w64 ((w64 (v - u)) * (w64 (w - v)))))) - (1:Int))).tdiv (w64 ((w64 (v - u)) * (w64 (w - v))))))
def p86 (u:Int) (v:Int) (w:Int) (p:Int) (q:Int) (r_a5:Int):Bool :=
  (decide (((w64 ((w64 (v - u)) * (w64 (w - v)))) ≠ 0)) &&
  true)
theorem q86 (u:Int) (v:Int) (w:Int) (p:Int) (q:Int) (r_a5:Int) (K:List PA→Prop) (hs:p86 u v w p q r_a5=true) (hk:K (e86 (s86 u v w p q r_a5))):vcFun Try.prog G86 ann86 86 [.one (.int .i64 u),.one (.int .i64 v),.one (.int .i64 w),.one (.int .i64 p),.one (.int .i64 q),.one (.int .i64 r_a5)] K:=by
  refine ofEq (f86_top u v w p q r_a5 K) ?_
  unfold p86 at hs
  unfold s86 at hk
  exact (andK hs fun hc hs=>⟨hc,hk⟩)
def ctr86 : List PA → COut
  | [.one (.int .i64 a0),.one (.int .i64 a1),.one (.int .i64 a2),.one (.int .i64 a3),.one (.int .i64 a4),.one (.int .i64 a5)]=>.det (p86 a0 a1 a2 a3 a4 a5=true) [.one (.int .i64 (s86 a0 a1 a2 a3 a4 a5))]
  | _=>.no
theorem call86:Callable Try.prog 86:=⟨_,rfl,rfl,by kernel_rfl⟩
theorem ok86:Ok Try.prog 86 ctr86:=ok_tab okT86 call86 fun args K h=>by
  unfold ctr86 at h
  split at h
  · rename_i a0 a1 a2 a3 a4 a5
    obtain ⟨hs,hk⟩:=h
    exact ⟨(fun _ _=>[]),(fun _=>false),ann86,q86 a0 a1 a2 a3 a4 a5 K hs hk⟩
  · exact h.elim
abbrev T46:Tabs:=(Tabs.nil.addF 86 ctr86)
theorem okT46:TabsOk Try.prog T46:=(TabsOk.nil.addF ok86)
abbrev G46:Ctrs:=csm T46 (fun _ _=>[]) (fun _=>false)
def ann46:Ann:=⟨45,[(0,⟨[0,1],[],[],[],[],[],[]⟩),(1,⟨[0,1,5],[],[],[],[],[],[]⟩),(2,⟨[0,1,5,6],[],[],[],[],[],[]⟩),(3,⟨[0,1,5,6,10],[],[],[],[],[],[]⟩),(4,⟨[0,1,5,6],[],[],[],[],[],[]⟩),(5,⟨[0,1,5,6],[],[],[],[],[],[]⟩),(6,⟨[4],[],[],[],[],[],[]⟩)],
  [(3,⟨[0,1,5,6],[],[],[],[],[],[]⟩)],
  [],
  [],[]⟩
def f46_g0 (z:(Sl Int)) (p:(Sl Int)) (kv0:Int) (iv0:Int):St:=⟨[(0,.one (.c (.p (.sl z.len 1 (fun i=>enc_3 (z.get i)))))),(1,.one (.c (.p (.sl p.len 1 (fun i=>enc_3 (p.get i)))))),(5,.one (.c (.p (.int .i64 kv0)))),(6,.one (.c (.p (.int .i64 iv0))))],[],[]⟩
def f46_at0 (K:List PA→Prop) (z:(Sl Int)) (p:(Sl Int)) (kv0:Int) (iv0:Int):Prop:=vc Try.prog G46 ann46 (cdF Try.f46 [1,1,0,1,0]) (blockK 0 (sqK Try.prog G46 ann46 (cdF Try.f46 [1,1,1]) (bodyK Try.prog Try.f46 K))) (f46_g0 z p kv0 iv0)
theorem f46_top (z : (Sl Int)) (p : (Sl Int)) (K : List PA → Prop) :
  vcFun Try.prog G46 ann46 46 [.one (.sl z.len 1 (fun i=>enc_3 (z.get i))),.one (.sl p.len 1 (fun i=>enc_3 (p.get i)))] K =
  (f46_at0 K z p (0:Int) (2:Int)):=by kernel_rfl
def f46_step0 (K:List PA→Prop) (X0:St→Prop) (z:(Sl Int)) (p:(Sl Int)) (kv0:Int) (iv0:Int):Prop :=
  (condP (decide (iv0 < (z.len : Int)))
   (((0≤(w64 (iv0 - (2:Int)))∧(w64 (iv0 - (2:Int))) < (z.len:Int))) ∧
   (((0≤(w64 (iv0 - (1:Int)))∧(w64 (iv0 - (1:Int))) < (z.len:Int))) ∧
   (((0≤iv0∧iv0 < (z.len:Int))) ∧
   (((0≤(w64 (iv0 - (2:Int)))∧(w64 (iv0 - (2:Int))) < (p.len:Int))) ∧
   (((0≤(w64 (iv0 - (1:Int)))∧(w64 (iv0 - (1:Int))) < (p.len:Int))) ∧
   (((0≤iv0∧iv0 < (p.len:Int))) ∧
   (((p86 (z.get ((w64 (iv0 - (2:Int))).toNat)) (z.get ((w64 (iv0 - (1:Int))).toNat)) (z.get iv0.toNat) (p.get ((w64 (iv0 - (2:Int))).toNat)) (p.get ((w64 (iv0 - (1:Int))).toNat)) (p.get iv0.toNat)=true)) ∧
   (X0 (f46_g0 z p (if (s86 (z.get ((w64 (iv0 - (2:Int))).toNat)) (z.get ((w64 (iv0 - (1:Int))).toNat)) (z.get iv0.toNat) (p.get ((w64 (iv0 - (2:Int))).toNat)) (p.get ((w64 (iv0 - (1:Int))).toNat)) (p.get iv0.toNat)) > kv0 then (s86 (z.get ((w64 (iv0 - (2:Int))).toNat)) (z.get ((w64 (iv0 - (1:Int))).toNat)) (z.get iv0.toNat) (p.get ((w64 (iv0 - (2:Int))).toNat)) (p.get ((w64 (iv0 - (1:Int))).toNat)) (p.get iv0.toNat)) else kv0) (w64 (iv0+(1:Int))))))))))))
   (K [.one (.int .i64 kv0)]))
theorem f46_stepeq0 (K : List PA → Prop) (X0 : St → Prop) (z : (Sl Int)) (p : (Sl Int)) (kv0 : Int) (iv0 : Int) :
  vc Try.prog G46 ann46 (cd (cdF Try.f46 [1,1,0,1,0]) [0]) (loopK Try.prog ann46 3 X0 (blockK 0 (sqK Try.prog G46 ann46 (cdF Try.f46 [1,1,1]) (bodyK Try.prog Try.f46 K)))) (f46_g0 z p kv0 iv0) =
  f46_step0 K X0 z p kv0 iv0:=by kernel_rfl
theorem f46_loop0 (K : List PA → Prop) (z : (Sl Int)) (p : (Sl Int)) (kv0 : Int) (iv0 : Int)
  (h:∀ X0:St→Prop,(∀ (kv0:Int) (iv0:Int),f46_step0 K X0 z p kv0 iv0→X0 (f46_g0 z p kv0 iv0))→X0 (f46_g0 z p kv0 iv0)) :
  f46_at0 K z p kv0 iv0:=by
  have e:f46_at0 K z p kv0 iv0=(∀ X:St→Prop,(∀ s,vc Try.prog G46 ann46 (cd (cdF Try.f46 [1,1,0,1,0]) [0]) (loopK Try.prog ann46 3 X (blockK 0 (sqK Try.prog G46 ann46 (cdF Try.f46 [1,1,1]) (bodyK Try.prog Try.f46 K)))) s→X s)→X (f46_g0 z p kv0 iv0)):=by kernel_rfl
  refine ofEq e ?_
  intro X hX
  refine h X ?_
  intro kv0 iv0 hs
  refine hX _ ?_
  have e2:=f46_stepeq0 K X z p kv0 iv0
  rw [e2]
  exact hs
abbrev e46 (r:Int):List PA:=[.one (.int .i64 r)]
attribute [irreducible] f46_at0
def s46_st0 (z:(Sl Int)) (p:(Sl Int)) (S0:Int→Int→Int) (kv0:Int) (iv0:Int):Int :=
  (cond (decide (iv0 < (z.len : Int)))
   (S0 (if (s86 (z.get ((w64 (iv0 - (2:Int))).toNat)) (z.get ((w64 (iv0 - (1:Int))).toNat)) (z.get iv0.toNat) (p.get ((w64 (iv0 - (2:Int))).toNat)) (p.get ((w64 (iv0 - (1:Int))).toNat)) (p.get iv0.toNat)) > kv0 then (s86 (z.get ((w64 (iv0 - (2:Int))).toNat)) (z.get ((w64 (iv0 - (1:Int))).toNat)) (z.get iv0.toNat) (p.get ((w64 (iv0 - (2:Int))).toNat)) (p.get ((w64 (iv0 - (1:Int))).toNat)) (p.get iv0.toNat)) else kv0) (w64 (iv0+(1:Int))))
   kv0)
def p46_st0 (z:(Sl Int)) (p:(Sl Int)) (P0:Int→Int→Bool) (kv0:Int) (iv0:Int):Bool :=
  (cond (decide (iv0 < (z.len : Int)))
   (decide ((0≤(w64 (iv0 - (2:Int)))∧(w64 (iv0 - (2:Int))) < (z.len:Int))) &&
   (decide ((0≤(w64 (iv0 - (1:Int)))∧(w64 (iv0 - (1:Int))) < (z.len:Int))) &&
   (decide ((0≤iv0∧iv0 < (z.len:Int))) &&
   (decide ((0≤(w64 (iv0 - (2:Int)))∧(w64 (iv0 - (2:Int))) < (p.len:Int))) &&
   (decide ((0≤(w64 (iv0 - (1:Int)))∧(w64 (iv0 - (1:Int))) < (p.len:Int))) &&
   (decide ((0≤iv0∧iv0 < (p.len:Int))) &&
   (decide ((p86 (z.get ((w64 (iv0 - (2:Int))).toNat)) (z.get ((w64 (iv0 - (1:Int))).toNat)) (z.get iv0.toNat) (p.get ((w64 (iv0 - (2:Int))).toNat)) (p.get ((w64 (iv0 - (1:Int))).toNat)) (p.get iv0.toNat)=true)) &&
   (P0 (if (s86 (z.get ((w64 (iv0 - (2:Int))).toNat)) (z.get ((w64 (iv0 - (1:Int))).toNat)) (z.get iv0.toNat) (p.get ((w64 (iv0 - (2:Int))).toNat)) (p.get ((w64 (iv0 - (1:Int))).toNat)) (p.get iv0.toNat)) > kv0 then (s86 (z.get ((w64 (iv0 - (2:Int))).toNat)) (z.get ((w64 (iv0 - (1:Int))).toNat)) (z.get iv0.toNat) (p.get ((w64 (iv0 - (2:Int))).toNat)) (p.get ((w64 (iv0 - (1:Int))).toNat)) (p.get iv0.toNat)) else kv0) (w64 (iv0+(1:Int)))))))))))
   true)
def s46_lp0 (z : (Sl Int)) (p : (Sl Int)) : Nat → Int → Int → Int
  | 0=>fun _ _=>default
  | k+1=>s46_st0 z p (s46_lp0 z p k)
def p46_lp0 (z : (Sl Int)) (p : (Sl Int)) : Nat → Int → Int → Bool
  | 0=>fun _ _=>false
  | k+1=>p46_st0 z p (p46_lp0 z p k)
def s46_at0 (z:(Sl Int)) (p:(Sl Int)) (kv0:Int) (iv0:Int):Int:=s46_lp0 z p Fuel kv0 iv0
def p46_at0 (z:(Sl Int)) (p:(Sl Int)) (kv0:Int) (iv0:Int):Bool:=p46_lp0 z p Fuel kv0 iv0
theorem q46_at0 (K:List PA→Prop) (z:(Sl Int)) (p:(Sl Int)) (kv0:Int) (iv0:Int) (hs:p46_at0 z p kv0 iv0=true) (hk:K (e46 (s46_at0 z p kv0 iv0))):f46_at0 K z p kv0 iv0:=by
  refine f46_loop0 K z p kv0 iv0 ?_
  intro X0 hstep
  have key:∀ (k:Nat) (kv0:Int) (iv0:Int),p46_lp0 z p k kv0 iv0=true→K (e46 (s46_lp0 z p k kv0 iv0))→X0 (f46_g0 z p kv0 iv0):=by
    intro k
    induction k with
    | zero=>intro kv0 iv0 hs;exact absurd hs Bool.false_ne_true
    | succ k ih =>
      intro kv0 iv0 hs hk
      refine hstep kv0 iv0 ?_
      have hs:p46_st0 z p (p46_lp0 z p k) kv0 iv0=true:=hs
      have hk:K (e46 (s46_st0 z p (s46_lp0 z p k) kv0 iv0)):=hk
      unfold p46_st0 at hs
      unfold s46_st0 at hk
      generalize s46_lp0 z p k=S0 at hk ih
      generalize p46_lp0 z p k=P0 at hs ih
      have hX0:=ih
      exact (condB_go (K := fun r => K (e46 r))
       (fun hs hk=>(andK hs fun hc hs=>⟨hc,(andK hs fun hc hs=>⟨hc,(andK hs fun hc hs=>⟨hc,(andK hs fun hc hs=>⟨hc,(andK hs fun hc hs=>⟨hc,(andK hs fun hc hs=>⟨hc,(andK hs fun hc hs=>⟨hc,(hX0 (if (s86 (z.get ((w64 (iv0 - (2:Int))).toNat)) (z.get ((w64 (iv0 - (1:Int))).toNat)) (z.get iv0.toNat) (p.get ((w64 (iv0 - (2:Int))).toNat)) (p.get ((w64 (iv0 - (1:Int))).toNat)) (p.get iv0.toNat)) > kv0 then (s86 (z.get ((w64 (iv0 - (2:Int))).toNat)) (z.get ((w64 (iv0 - (1:Int))).toNat)) (z.get iv0.toNat) (p.get ((w64 (iv0 - (2:Int))).toNat)) (p.get ((w64 (iv0 - (1:Int))).toNat)) (p.get iv0.toNat)) else kv0) (w64 (iv0+(1:Int))) hs hk)⟩)⟩)⟩)⟩)⟩)⟩)⟩))
       (fun hs hk=>hk) hs hk)
  exact key _ kv0 iv0 hs hk
def s46 (z:(Sl Int)) (p:(Sl Int)):Int :=
  (s46_at0 z p (0:Int) (2:Int))
def p46 (z:(Sl Int)) (p:(Sl Int)):Bool :=
  (p46_at0 z p (0:Int) (2:Int))
theorem q46 (z:(Sl Int)) (p:(Sl Int)) (K:List PA→Prop) (hs:p46 z p=true) (hk:K (e46 (s46 z p))):vcFun Try.prog G46 ann46 46 [.one (.sl z.len 1 (fun i=>enc_3 (z.get i))),.one (.sl p.len 1 (fun i=>enc_3 (p.get i)))] K:=by
  refine ofEq (f46_top z p K) ?_
  unfold p46 at hs
  unfold s46 at hk
  exact (q46_at0 K z p (0:Int) (2:Int) hs hk)
def ctr46 : List PA → COut
  | [.one (.sl a0_n a0_s a0_g),.one (.sl a1_n a1_s a1_g)]=>.det (IsE enc_3 1 a0_s a0_g∧IsE enc_3 1 a1_s a1_g∧p46 (⟨a0_n,decF_3 a0_g⟩:(Sl Int)) (⟨a1_n,decF_3 a1_g⟩:(Sl Int))=true) [.one (.int .i64 (s46 (⟨a0_n,decF_3 a0_g⟩:(Sl Int)) (⟨a1_n,decF_3 a1_g⟩:(Sl Int))))]
  | _=>.no
theorem call46:Callable Try.prog 46:=⟨_,rfl,rfl,by kernel_rfl⟩
theorem ok46:Ok Try.prog 46 ctr46:=ok_tab okT46 call46 fun args K h=>by
  unfold ctr46 at h
  split at h
  · rename_i a0_n a0_s a0_g a1_n a1_s a1_g
    obtain ⟨⟨⟨rfl,a0_f,rfl⟩,⟨rfl,a1_f,rfl⟩,hs⟩,hk⟩:=h
    try rw [decF_enc_3 a0_f] at hs
    try rw [decF_enc_3 a0_f] at hk
    try rw [decF_enc_3 a1_f] at hs
    try rw [decF_enc_3 a1_f] at hk
    exact ⟨(fun _ _=>[]),(fun _=>false),ann46,q46 (⟨a0_n,a0_f⟩:(Sl Int)) (⟨a1_n,a1_f⟩:(Sl Int)) K hs hk⟩
  · exact h.elim
end Go.Proofs
namespace Go.Proofs
open Go Go.Pm
set_option maxRecDepth 100000
set_option linter.unusedVariables false
attribute [local irreducible] Go.Pm.vcFun Go.Pm.vc Go.Pm.vcIter
abbrev T9:Tabs:=((((Tabs.nil.addF 18 ctr18).addF 44 ctr44).addF 45 ctr45).addF 46 ctr46)
theorem okT9:TabsOk Try.prog T9:=((((TabsOk.nil.addF ok18).addF ok44).addF ok45).addF ok46)
abbrev G9:Ctrs:=csm T9 (fun _ _=>[]) (fun _=>false)
def ann9:Ann:=⟨77,[(0,⟨[0,1],[],[],[],[],[],[]⟩),(1,⟨[0,1,16],[],[],[],[],[],[]⟩),(2,⟨[4],[],[],[],[],[],[]⟩),(3,⟨[0,1,5,6],[],[],[],[],[],[]⟩),(4,⟨[0,1,5,6,7],[],[],[],[],[],[]⟩),(5,⟨[0,1,5,6,7,8],[],[],[],[],[],[]⟩),(6,⟨[0,1,5,6,7,8,36],[],[],[],[],[],[]⟩),(7,⟨[0,1,5,6,7,8],[],[],[],[],[],[]⟩),(8,⟨[0,1,5,6,7,8],[],[],[],[],[],[]⟩),(9,⟨[0,1,5,6,55],[],[],[],[],[],[]⟩),(10,⟨[4],[],[],[],[],[],[]⟩),(11,⟨[4],[],[],[],[],[],[]⟩)],
  [(6,⟨[0,1,5,6,7,8],[],[],[],[],[],[]⟩)],
  [(3,⟨[0,1],[],[],[],[],[],[]⟩),(4,⟨[0,1,5,6],[],[],[],[],[],[]⟩),(5,⟨[0,1,5,6,7],[],[],[],[],[],[]⟩),(9,⟨[0,1,5,6,7],[],[],[],[],[],[]⟩),(11,⟨[0,1,5,6],[],[],[],[],[],[]⟩)],
  [],[]⟩
def f9_g0 (heights:(Sl Int)) (places:(Sl Int)):St:=⟨[(0,.one (.c (.p (.sl heights.len 1 (fun i=>enc_3 (heights.get i)))))),(1,.one (.c (.p (.sl places.len 1 (fun i=>enc_3 (places.get i))))))],[],[]⟩
def f9_at0 (K:List PA→Prop) (heights:(Sl Int)) (places:(Sl Int)):Prop:=vc Try.prog G9 ann9 (cdF Try.f9 [1,1]) (bodyK Try.prog Try.f9 K) (f9_g0 heights places)
def f9_g1 (heights:(Sl Int)) (places:(Sl Int)) (kv1:Int) (ev1:Int):St:=⟨[(0,.one (.c (.p (.sl heights.len 1 (fun i=>enc_3 (heights.get i)))))),(1,.one (.c (.p (.sl places.len 1 (fun i=>enc_3 (places.get i)))))),(5,.one (.c (.p (.int .i64 kv1)))),(6,.one (.c (.p (.int .i64 ev1))))],[],[]⟩
def f9_at1 (K:List PA→Prop) (heights:(Sl Int)) (places:(Sl Int)) (kv1:Int) (ev1:Int):Prop:=vc Try.prog G9 ann9 (cdF Try.f9 [1,1,1]) (bodyK Try.prog Try.f9 K) (f9_g1 heights places kv1 ev1)
def f9_g2 (heights:(Sl Int)) (places:(Sl Int)) (kv1:Int) (ev1:Int) (validv2:Bool):St:=⟨[(0,.one (.c (.p (.sl heights.len 1 (fun i=>enc_3 (heights.get i)))))),(1,.one (.c (.p (.sl places.len 1 (fun i=>enc_3 (places.get i)))))),(5,.one (.c (.p (.int .i64 kv1)))),(6,.one (.c (.p (.int .i64 ev1)))),(7,.one (.c (.p (.bool validv2))))],[],[]⟩
def f9_at2 (K:List PA→Prop) (heights:(Sl Int)) (places:(Sl Int)) (kv1:Int) (ev1:Int) (validv2:Bool):Prop:=vc Try.prog G9 ann9 (cdF Try.f9 [1,1,1,1]) (bodyK Try.prog Try.f9 K) (f9_g2 heights places kv1 ev1 validv2)
def f9_g3 (heights:(Sl Int)) (places:(Sl Int)) (kv1:Int) (ev1:Int) (validv3:Bool) (iv3:Int):St:=⟨[(0,.one (.c (.p (.sl heights.len 1 (fun i=>enc_3 (heights.get i)))))),(1,.one (.c (.p (.sl places.len 1 (fun i=>enc_3 (places.get i)))))),(5,.one (.c (.p (.int .i64 kv1)))),(6,.one (.c (.p (.int .i64 ev1)))),(7,.one (.c (.p (.bool validv3)))),(8,.one (.c (.p (.int .i64 iv3))))],[],[]⟩
def f9_at3 (K:List PA→Prop) (heights:(Sl Int)) (places:(Sl Int)) (kv1:Int) (ev1:Int) (validv3:Bool) (iv3:Int):Prop:=vc Try.prog G9 ann9 (cdF Try.f9 [1,1,1,1,0,1,0]) (blockK 0 (sqK Try.prog G9 ann9 (cdF Try.f9 [1,1,1,1,1]) (bodyK Try.prog Try.f9 K))) (f9_g3 heights places kv1 ev1 validv3 iv3)
def f9_g4 (heights:(Sl Int)) (places:(Sl Int)) (kv1:Int) (ev1:Int) (validv4:Bool):St:=⟨[(0,.one (.c (.p (.sl heights.len 1 (fun i=>enc_3 (heights.get i)))))),(1,.one (.c (.p (.sl places.len 1 (fun i=>enc_3 (places.get i)))))),(5,.one (.c (.p (.int .i64 kv1)))),(6,.one (.c (.p (.int .i64 ev1)))),(7,.one (.c (.p (.bool validv4))))],[],[]⟩
def f9_at4 (K:List PA→Prop) (heights:(Sl Int)) (places:(Sl Int)) (kv1:Int) (ev1:Int) (validv4:Bool):Prop:=vc Try.prog G9 ann9 (cdF Try.f9 [1,1,1,1,1]) (bodyK Try.prog Try.f9 K) (f9_g4 heights places kv1 ev1 validv4)
def f9_g5 (heights:(Sl Int)) (places:(Sl Int)) (kv1:Int) (ev1:Int):St:=⟨[(0,.one (.c (.p (.sl heights.len 1 (fun i=>enc_3 (heights.get i)))))),(1,.one (.c (.p (.sl places.len 1 (fun i=>enc_3 (places.get i)))))),(5,.one (.c (.p (.int .i64 kv1)))),(6,.one (.c (.p (.int .i64 ev1))))],[],[]⟩
def f9_at5 (K:List PA→Prop) (heights:(Sl Int)) (places:(Sl Int)) (kv1:Int) (ev1:Int):Prop:=vc Try.prog G9 ann9 (cdF Try.f9 [1,1,1,1,1,1]) (bodyK Try.prog Try.f9 K) (f9_g5 heights places kv1 ev1)
theorem f9_top (heights : (Sl Int)) (places : (Sl Int)) (K : List PA → Prop) :
  vcFun Try.prog G9 ann9 9 [.one (.sl heights.len 1 (fun i=>enc_3 (heights.get i))),.one (.sl places.len 1 (fun i=>enc_3 (places.get i)))] K =
  (condP (decide ((heights.len : Int) > (20:Int)))
   (K [.one (.bool true)])
   (condP (decide ((places.len : Int) > (20:Int)))
    (K [.one (.bool true)])
    (f9_at0 K heights places))):=by kernel_rfl
theorem f9_eq0 (K : List PA → Prop) (heights : (Sl Int)) (places : (Sl Int)) :
  f9_at0 K heights places =
  ((IsE enc_3 1 1 (fun i=>enc_3 (heights.get i))∧IsE enc_3 1 1 (fun i=>enc_3 (places.get i))∧(p44 heights places=true)) ∧
  (f9_at1 K heights places ((s44 heights places).1) ((s44 heights places).2))):=by kernel_rfl
theorem f9_eq1 (K : List PA → Prop) (heights : (Sl Int)) (places : (Sl Int)) (kv1 : Int) (ev1 : Int) :
  f9_at1 K heights places kv1 ev1 =
  ((IsE enc_3 1 1 (fun i=>enc_3 (heights.get i))∧(p45 heights=true)) ∧
  (condP (s45 heights)
   (f9_at2 K heights places kv1 ev1 ((places.len:Int) == (heights.len:Int)))
   (f9_at2 K heights places kv1 ev1 false))):=by kernel_rfl
theorem f9_eq2 (K : List PA → Prop) (heights : (Sl Int)) (places : (Sl Int)) (kv1 : Int) (ev1 : Int) (validv2 : Bool) :
  f9_at2 K heights places kv1 ev1 validv2 =
  (f9_at3 K heights places kv1 ev1 validv2 (0:Int)):=by kernel_rfl
def f9_step3 (K:List PA→Prop) (X3:St→Prop) (heights:(Sl Int)) (places:(Sl Int)) (kv1:Int) (ev1:Int) (validv3:Bool) (iv3:Int):Prop :=
  (condP (decide (iv3 < (places.len : Int)))
   (condP validv3
    (((0≤iv3∧iv3 < (places.len:Int))) ∧
    (condP (decide ((places.get iv3.toNat) ≥ (-1000000:Int)))
     (((0≤iv3∧iv3 < (places.len:Int))) ∧
     (X3 (f9_g3 heights places kv1 ev1 (decide ((places.get iv3.toNat)≤(1000000:Int))) (w64 (iv3+(1:Int))))))
     (X3 (f9_g3 heights places kv1 ev1 false (w64 (iv3+(1:Int)))))))
    (X3 (f9_g3 heights places kv1 ev1 false (w64 (iv3+(1:Int))))))
   (f9_at4 K heights places kv1 ev1 validv3))
theorem f9_stepeq3 (K : List PA → Prop) (X3 : St → Prop) (heights : (Sl Int)) (places : (Sl Int)) (kv1 : Int) (ev1 : Int) (validv3 : Bool) (iv3 : Int) :
  vc Try.prog G9 ann9 (cd (cdF Try.f9 [1,1,1,1,0,1,0]) [0]) (loopK Try.prog ann9 6 X3 (blockK 0 (sqK Try.prog G9 ann9 (cdF Try.f9 [1,1,1,1,1]) (bodyK Try.prog Try.f9 K)))) (f9_g3 heights places kv1 ev1 validv3 iv3) =
  f9_step3 K X3 heights places kv1 ev1 validv3 iv3:=by kernel_rfl
theorem f9_loop3 (K : List PA → Prop) (heights : (Sl Int)) (places : (Sl Int)) (kv1 : Int) (ev1 : Int) (validv3 : Bool) (iv3 : Int)
  (h:∀ X3:St→Prop,(∀ (validv3:Bool) (iv3:Int),f9_step3 K X3 heights places kv1 ev1 validv3 iv3→X3 (f9_g3 heights places kv1 ev1 validv3 iv3))→X3 (f9_g3 heights places kv1 ev1 validv3 iv3)) :
  f9_at3 K heights places kv1 ev1 validv3 iv3:=by
  have e:f9_at3 K heights places kv1 ev1 validv3 iv3=(∀ X:St→Prop,(∀ s,vc Try.prog G9 ann9 (cd (cdF Try.f9 [1,1,1,1,0,1,0]) [0]) (loopK Try.prog ann9 6 X (blockK 0 (sqK Try.prog G9 ann9 (cdF Try.f9 [1,1,1,1,1]) (bodyK Try.prog Try.f9 K)))) s→X s)→X (f9_g3 heights places kv1 ev1 validv3 iv3)):=by kernel_rfl
  refine ofEq e ?_
  intro X hX
  refine h X ?_
  intro validv3 iv3 hs
  refine hX _ ?_
  have e2:=f9_stepeq3 K X heights places kv1 ev1 validv3 iv3
  rw [e2]
  exact hs
theorem f9_eq4 (K : List PA → Prop) (heights : (Sl Int)) (places : (Sl Int)) (kv1 : Int) (ev1 : Int) (validv4 : Bool) :
  f9_at4 K heights places kv1 ev1 validv4 =
  (condP (!validv4)
   (condP (ev1 == (2:Int))
    (condP (kv1 == (0:Int))
     (K [.one (.bool true)])
     (K [.one (.bool false)]))
    (K [.one (.bool false)]))
   (f9_at5 K heights places kv1 ev1)):=by kernel_rfl
theorem f9_eq5 (K : List PA → Prop) (heights : (Sl Int)) (places : (Sl Int)) (kv1 : Int) (ev1 : Int) :
  f9_at5 K heights places kv1 ev1 =
  (condP (ev1 == (0:Int))
   ((IsE enc_3 1 1 (fun i=>enc_3 (heights.get i))∧IsE enc_3 1 1 (fun i=>enc_3 (places.get i))∧(p46 heights places=true)) ∧
   (condP (kv1 == (s46 heights places))
    (K [.one (.bool true)])
    (K [.one (.bool false)])))
   (K [.one (.bool false)])):=by kernel_rfl
abbrev e9 (r:Bool):List PA:=[.one (.bool r)]
attribute [irreducible] f9_at0 f9_at1 f9_at2 f9_at3 f9_at4 f9_at5
def s9_at5 (heights:(Sl Int)) (places:(Sl Int)) (kv1:Int) (ev1:Int):Bool :=
  (cond (ev1 == (0:Int))
   (cond (kv1 == (s46 heights places))
    true
    false)
   false)
def p9_at5 (heights:(Sl Int)) (places:(Sl Int)) (kv1:Int) (ev1:Int):Bool :=
  (cond (ev1 == (0:Int))
   (decide ((p46 heights places=true)) &&
   true)
   true)
theorem q9_at5 (K:List PA→Prop) (heights:(Sl Int)) (places:(Sl Int)) (kv1:Int) (ev1:Int) (hs:p9_at5 heights places kv1 ev1=true) (hk:K (e9 (s9_at5 heights places kv1 ev1))):f9_at5 K heights places kv1 ev1:=by
  refine ofEq (f9_eq5 K heights places kv1 ev1) ?_
  unfold p9_at5 at hs
  unfold s9_at5 at hk
  exact (condB_go (K := fun r => K (e9 r))
   (fun hs hk => (andK hs fun hc hs => ⟨⟨isE, isE, hc⟩, (condP_gt (K := fun r => K (e9 r))
    (fun hk=>hk)
    (fun hk=>hk) hk)⟩))
   (fun hs hk=>hk) hs hk)
def s9_at4 (heights:(Sl Int)) (places:(Sl Int)) (kv1:Int) (ev1:Int) (validv4:Bool):Bool :=
  (cond (!validv4)
   (cond (ev1 == (2:Int))
    (cond (kv1 == (0:Int))
     true
     false)
    false)
   (s9_at5 heights places kv1 ev1))
def p9_at4 (heights:(Sl Int)) (places:(Sl Int)) (kv1:Int) (ev1:Int) (validv4:Bool):Bool :=
  (cond (!validv4)
   true
   (p9_at5 heights places kv1 ev1))
theorem q9_at4 (K:List PA→Prop) (heights:(Sl Int)) (places:(Sl Int)) (kv1:Int) (ev1:Int) (validv4:Bool) (hs:p9_at4 heights places kv1 ev1 validv4=true) (hk:K (e9 (s9_at4 heights places kv1 ev1 validv4))):f9_at4 K heights places kv1 ev1 validv4:=by
  refine ofEq (f9_eq4 K heights places kv1 ev1 validv4) ?_
  unfold p9_at4 at hs
  unfold s9_at4 at hk
  exact (condB_go (K := fun r => K (e9 r))
   (fun hs hk => (condP_gt (K := fun r => K (e9 r))
    (fun hk => (condP_gt (K := fun r => K (e9 r))
     (fun hk=>hk)
     (fun hk=>hk) hk))
    (fun hk=>hk) hk))
   (fun hs hk=>(q9_at5 K heights places kv1 ev1 hs hk)) hs hk)
def s9_st3 (heights:(Sl Int)) (places:(Sl Int)) (kv1:Int) (ev1:Int) (S3:Bool→Int→Bool) (validv3:Bool) (iv3:Int):Bool :=
  (cond (decide (iv3 < (places.len : Int)))
   (cond validv3
    (cond (decide ((places.get iv3.toNat) ≥ (-1000000:Int)))
     (S3 (decide ((places.get iv3.toNat)≤(1000000:Int))) (w64 (iv3+(1:Int))))
     (S3 false (w64 (iv3+(1:Int)))))
    (S3 false (w64 (iv3+(1:Int)))))
   (s9_at4 heights places kv1 ev1 validv3))
def p9_st3 (heights:(Sl Int)) (places:(Sl Int)) (kv1:Int) (ev1:Int) (P3:Bool→Int→Bool) (validv3:Bool) (iv3:Int):Bool :=
  (cond (decide (iv3 < (places.len : Int)))
   (cond validv3
    (decide ((0≤iv3∧iv3 < (places.len:Int))) &&
    (cond (decide ((places.get iv3.toNat) ≥ (-1000000:Int)))
     (decide ((0≤iv3∧iv3 < (places.len:Int))) &&
     (P3 (decide ((places.get iv3.toNat)≤(1000000:Int))) (w64 (iv3+(1:Int)))))
     (P3 false (w64 (iv3+(1:Int))))))
    (P3 false (w64 (iv3+(1:Int)))))
   (p9_at4 heights places kv1 ev1 validv3))
def s9_lp3 (heights : (Sl Int)) (places : (Sl Int)) (kv1 : Int) (ev1 : Int) : Nat → Bool → Int → Bool
  | 0=>fun _ _=>default
  | k+1=>s9_st3 heights places kv1 ev1 (s9_lp3 heights places kv1 ev1 k)
def p9_lp3 (heights : (Sl Int)) (places : (Sl Int)) (kv1 : Int) (ev1 : Int) : Nat → Bool → Int → Bool
  | 0=>fun _ _=>false
  | k+1=>p9_st3 heights places kv1 ev1 (p9_lp3 heights places kv1 ev1 k)
def s9_at3 (heights:(Sl Int)) (places:(Sl Int)) (kv1:Int) (ev1:Int) (validv3:Bool) (iv3:Int):Bool:=s9_lp3 heights places kv1 ev1 Fuel validv3 iv3
def p9_at3 (heights:(Sl Int)) (places:(Sl Int)) (kv1:Int) (ev1:Int) (validv3:Bool) (iv3:Int):Bool:=p9_lp3 heights places kv1 ev1 Fuel validv3 iv3
theorem q9_at3 (K:List PA→Prop) (heights:(Sl Int)) (places:(Sl Int)) (kv1:Int) (ev1:Int) (validv3:Bool) (iv3:Int) (hs:p9_at3 heights places kv1 ev1 validv3 iv3=true) (hk:K (e9 (s9_at3 heights places kv1 ev1 validv3 iv3))):f9_at3 K heights places kv1 ev1 validv3 iv3:=by
  refine f9_loop3 K heights places kv1 ev1 validv3 iv3 ?_
  intro X3 hstep
  have key:∀ (k:Nat) (validv3:Bool) (iv3:Int),p9_lp3 heights places kv1 ev1 k validv3 iv3=true→K (e9 (s9_lp3 heights places kv1 ev1 k validv3 iv3))→X3 (f9_g3 heights places kv1 ev1 validv3 iv3):=by
    intro k
    induction k with
    | zero=>intro validv3 iv3 hs;exact absurd hs Bool.false_ne_true
    | succ k ih =>
      intro validv3 iv3 hs hk
      refine hstep validv3 iv3 ?_
      have hs:p9_st3 heights places kv1 ev1 (p9_lp3 heights places kv1 ev1 k) validv3 iv3=true:=hs
      have hk:K (e9 (s9_st3 heights places kv1 ev1 (s9_lp3 heights places kv1 ev1 k) validv3 iv3)):=hk
      unfold p9_st3 at hs
      unfold s9_st3 at hk
      generalize s9_lp3 heights places kv1 ev1 k=S3 at hk ih
      generalize p9_lp3 heights places kv1 ev1 k=P3 at hs ih
      have hX3:=ih
      exact (condB_go (K := fun r => K (e9 r))
       (fun hs hk => (condB_go (K := fun r => K (e9 r))
        (fun hs hk => (andK hs fun hc hs => ⟨hc, (condB_go (K := fun r => K (e9 r))
         (fun hs hk=>(andK hs fun hc hs=>⟨hc,(hX3 (decide ((places.get iv3.toNat)≤(1000000:Int))) (w64 (iv3+(1:Int))) hs hk)⟩))
         (fun hs hk=>(hX3 false (w64 (iv3+(1:Int))) hs hk)) hs hk)⟩))
        (fun hs hk=>(hX3 false (w64 (iv3+(1:Int))) hs hk)) hs hk))
       (fun hs hk=>(q9_at4 K heights places kv1 ev1 validv3 hs hk)) hs hk)
  exact key _ validv3 iv3 hs hk
def s9_at2 (heights:(Sl Int)) (places:(Sl Int)) (kv1:Int) (ev1:Int) (validv2:Bool):Bool :=
  (s9_at3 heights places kv1 ev1 validv2 (0:Int))
def p9_at2 (heights:(Sl Int)) (places:(Sl Int)) (kv1:Int) (ev1:Int) (validv2:Bool):Bool :=
  (p9_at3 heights places kv1 ev1 validv2 (0:Int))
theorem q9_at2 (K:List PA→Prop) (heights:(Sl Int)) (places:(Sl Int)) (kv1:Int) (ev1:Int) (validv2:Bool) (hs:p9_at2 heights places kv1 ev1 validv2=true) (hk:K (e9 (s9_at2 heights places kv1 ev1 validv2))):f9_at2 K heights places kv1 ev1 validv2:=by
  refine ofEq (f9_eq2 K heights places kv1 ev1 validv2) ?_
  unfold p9_at2 at hs
  unfold s9_at2 at hk
  exact (q9_at3 K heights places kv1 ev1 validv2 (0:Int) hs hk)
def s9_at1 (heights:(Sl Int)) (places:(Sl Int)) (kv1:Int) (ev1:Int):Bool :=
  (cond (s45 heights)
   (s9_at2 heights places kv1 ev1 ((places.len:Int) == (heights.len:Int)))
   (s9_at2 heights places kv1 ev1 false))
def p9_at1 (heights:(Sl Int)) (places:(Sl Int)) (kv1:Int) (ev1:Int):Bool :=
  (decide ((p45 heights=true)) &&
  (cond (s45 heights)
   (p9_at2 heights places kv1 ev1 ((places.len:Int) == (heights.len:Int)))
   (p9_at2 heights places kv1 ev1 false)))
theorem q9_at1 (K:List PA→Prop) (heights:(Sl Int)) (places:(Sl Int)) (kv1:Int) (ev1:Int) (hs:p9_at1 heights places kv1 ev1=true) (hk:K (e9 (s9_at1 heights places kv1 ev1))):f9_at1 K heights places kv1 ev1:=by
  refine ofEq (f9_eq1 K heights places kv1 ev1) ?_
  unfold p9_at1 at hs
  unfold s9_at1 at hk
  exact (andK hs fun hc hs => ⟨⟨isE, hc⟩, (condB_go (K := fun r => K (e9 r))
   (fun hs hk=>(q9_at2 K heights places kv1 ev1 ((places.len:Int) == (heights.len:Int)) hs hk))
   (fun hs hk=>(q9_at2 K heights places kv1 ev1 false hs hk)) hs hk)⟩)
def s9_at0 (heights:(Sl Int)) (places:(Sl Int)):Bool :=
  (s9_at1 heights places ((s44 heights places).1) ((s44 heights places).2))
def p9_at0 (heights:(Sl Int)) (places:(Sl Int)):Bool :=
  (decide ((p44 heights places=true)) &&
  (p9_at1 heights places ((s44 heights places).1) ((s44 heights places).2)))
theorem q9_at0 (K:List PA→Prop) (heights:(Sl Int)) (places:(Sl Int)) (hs:p9_at0 heights places=true) (hk:K (e9 (s9_at0 heights places))):f9_at0 K heights places:=by
  refine ofEq (f9_eq0 K heights places) ?_
  unfold p9_at0 at hs
  unfold s9_at0 at hk
  exact (andK hs fun hc hs=>⟨⟨isE,isE,hc⟩,(q9_at1 K heights places ((s44 heights places).1) ((s44 heights places).2) hs hk)⟩)
def s9 (heights:(Sl Int)) (places:(Sl Int)):Bool :=
  (cond (decide ((heights.len : Int) > (20:Int)))
   true
   (cond (decide ((places.len : Int) > (20:Int)))
    true
    (s9_at0 heights places)))
def p9 (heights:(Sl Int)) (places:(Sl Int)):Bool :=
  (cond (decide ((heights.len : Int) > (20:Int)))
   true
   (cond (decide ((places.len : Int) > (20:Int)))
    true
    (p9_at0 heights places)))
theorem q9 (heights:(Sl Int)) (places:(Sl Int)) (K:List PA→Prop) (hs:p9 heights places=true) (hk:K (e9 (s9 heights places))):vcFun Try.prog G9 ann9 9 [.one (.sl heights.len 1 (fun i=>enc_3 (heights.get i))),.one (.sl places.len 1 (fun i=>enc_3 (places.get i)))] K:=by
  refine ofEq (f9_top heights places K) ?_
  unfold p9 at hs
  unfold s9 at hk
  exact (condB_go (K := fun r => K (e9 r))
   (fun hs hk=>hk)
   (fun hs hk => (condB_go (K := fun r => K (e9 r))
    (fun hs hk=>hk)
    (fun hs hk=>(q9_at0 K heights places hs hk)) hs hk)) hs hk)
def ctr9 : List PA → COut
  | [.one (.sl a0_n a0_s a0_g),.one (.sl a1_n a1_s a1_g)]=>.det (IsE enc_3 1 a0_s a0_g∧IsE enc_3 1 a1_s a1_g∧p9 (⟨a0_n,decF_3 a0_g⟩:(Sl Int)) (⟨a1_n,decF_3 a1_g⟩:(Sl Int))=true) [.one (.bool (s9 (⟨a0_n,decF_3 a0_g⟩:(Sl Int)) (⟨a1_n,decF_3 a1_g⟩:(Sl Int))))]
  | _=>.no
theorem call9:Callable Try.prog 9:=⟨_,rfl,rfl,by kernel_rfl⟩
theorem ok9:Ok Try.prog 9 ctr9:=ok_tab okT9 call9 fun args K h=>by
  unfold ctr9 at h
  split at h
  · rename_i a0_n a0_s a0_g a1_n a1_s a1_g
    obtain ⟨⟨⟨rfl,a0_f,rfl⟩,⟨rfl,a1_f,rfl⟩,hs⟩,hk⟩:=h
    try rw [decF_enc_3 a0_f] at hs
    try rw [decF_enc_3 a0_f] at hk
    try rw [decF_enc_3 a1_f] at hs
    try rw [decF_enc_3 a1_f] at hk
    exact ⟨(fun _ _=>[]),(fun _=>false),ann9,q9 (⟨a0_n,a0_f⟩:(Sl Int)) (⟨a1_n,a1_f⟩:(Sl Int)) K hs hk⟩
  · exact h.elim
end Go.Proofs
namespace Go.Proofs
open Go Go.Pm
set_option maxRecDepth 100000
set_option linter.unusedVariables false
attribute [local irreducible] Go.Pm.vcFun Go.Pm.vc Go.Pm.vcIter
theorem C_3:Try.prog.cellsOf 3=1:=by kernel_rfl
abbrev wf_3 (x:Int):Prop:=wfI x
theorem rd_3 {H:Type} {en:TypeId×Value→H} {w:World} {sp:Nat→Bool} {held:Bool} : Rd H en Try.prog w sp held 3 enc_3 wf_3:=rd_int Try.underlying3
def wf_39 (x:(Sl Int)):Prop:=x.len≤9223372036854775807∧∀ i,i < x.len→wf_3 (x.get i)
theorem rd_39 {H:Type} {en:TypeId×Value→H} {w:World} {sp:Nat→Bool} {held:Bool} : Rd H en Try.prog w sp held 39 enc_39 wf_39:=rd_slice Try.underlying39 C_3 (by decide) (fun _=>rfl) rd_3
end Go.Proofs
namespace Go.Pm
open Go
theorem w64_succ {i n:Nat} (h:i < n) (hn:n≤9223372036854775807):w64 ((i:Int)+(1:Int))=((i+1:Nat):Int):=by
  rw [w64_id (by omega) (by omega)];omega
theorem ex_loop {β : Type} {good : Nat → Bool} {bad fin : β} {finP : Bool} {n : Nat} {lpS : Nat → Int → β} {lpP : Nat → Int → Bool}
    (hS:∀ (k i:Nat),i < n→lpS (k+1) (i:Int)=cond (good i) (lpS k (w64 ((i:Int)+(1:Int)))) bad)
    (hE:∀ k,lpS (k+1) (n:Int)=fin)
    (hP:∀ (k i:Nat),i < n→lpP (k+1) (i:Int)=cond (good i) (lpP k (w64 ((i:Int)+(1:Int)))) true)
    (hPE:∀ k,lpP (k+1) (n:Int)=finP) (hn:n≤9223372036854775807) :
    ((∀ i,i < n→good i=true)→lpP Fuel 0=finP∧lpS Fuel 0=fin)∧((¬ ∀ i,i < n→good i=true)→lpP Fuel 0=true∧lpS Fuel 0=bad):=by
  have key:∀ (m k i:Nat),i+m=n→m < k→((∀ j,i≤j→j < n→good j=true)→lpP k (i:Int)=finP∧lpS k (i:Int)=fin)∧((¬ ∀ j,i≤j→j < n→good j=true)→lpP k (i:Int)=true∧lpS k (i:Int)=bad):=by
    intro m
    induction m with
    | zero =>
      intro k i hi hk
      obtain ⟨k,rfl⟩:∃ k',k=k'+1:=⟨k - 1,by omega⟩
      have:i=n:=by omega
      subst this
      rw [hE,hPE]
      exact ⟨fun _=>⟨rfl,rfl⟩,fun h=>absurd (fun j h1 h2=>absurd h2 (by omega)) h⟩
    | succ m ih =>
      intro k i hi hk
      obtain ⟨k,rfl⟩:∃ k',k=k'+1:=⟨k - 1,by omega⟩
      rw [hS k i (by omega),hP k i (by omega),w64_succ (n:=n) (by omega) hn]
      obtain ⟨h1,h2⟩:=ih k (i+1) (by omega) (by omega)
      cases hg:good i
      · refine ⟨fun h => ?_, fun _ => ⟨rfl, rfl⟩⟩
        have:=h i (Nat.le_refl _) (by omega)
        rw [hg] at this;cases this
      · refine ⟨fun h => h1 fun j a b => h j (by omega) b, fun h => h2 fun h' => h fun j a b => ?_⟩
        by_cases hji:j=i
        · rw [hji];exact hg
        · exact h' j (by omega) b
  have:=key n Fuel 0 (by omega) (by simp only [Fuel];omega)
  simpa using this
def foldF {σ : Type} (step : Nat → σ → σ) : Nat → Nat → σ → σ
  | 0,_,s=>s
  | m+1,i,s=>foldF step m (i+1) (step i s)
theorem fold_loop {σ β : Type} {step : Nat → σ → σ} {E : σ → β} {EP : σ → Bool} {Inv : Nat → σ → Prop} {a n : Nat} {lpS : Nat → σ → Int → β} {lpP : Nat → σ → Int → Bool}
    (hS:∀ (k i:Nat) (s:σ),a≤i→i < n→Inv i s→lpS (k+1) s (i:Int)=lpS k (step i s) (w64 ((i:Int)+(1:Int))))
    (hE:∀ k s,lpS (k+1) s (n:Int)=E s)
    (hP:∀ (k i:Nat) (s:σ),a≤i→i < n→Inv i s→lpP (k+1) s (i:Int)=lpP k (step i s) (w64 ((i:Int)+(1:Int))))
    (hPE:∀ k s,lpP (k+1) s (n:Int)=EP s)
    (hI:∀ i s,a≤i→i < n→Inv i s→Inv (i+1) (step i s)) (ha:a≤n) (hn:n≤9223372036854775807) (s:σ) (h0:Inv a s) :
    lpP Fuel s (a:Int)=EP (foldF step (n - a) a s)∧lpS Fuel s (a:Int)=E (foldF step (n - a) a s):=by
  have key:∀ (m k i:Nat) (s:σ),a≤i→i+m=n→m < k→Inv i s→lpP k s (i:Int)=EP (foldF step m i s)∧lpS k s (i:Int)=E (foldF step m i s):=by
    intro m
    induction m with
    | zero =>
      intro k i s h1 hi hk _
      obtain ⟨k,rfl⟩:∃ k',k=k'+1:=⟨k - 1,by omega⟩
      have:i=n:=by omega
      subst this
      rw [hE,hPE]
      exact ⟨rfl,rfl⟩
    | succ m ih =>
      intro k i s h1 hi hk hs
      obtain ⟨k,rfl⟩:∃ k',k=k'+1:=⟨k - 1,by omega⟩
      rw [hS k i s h1 (by omega) hs,hP k i s h1 (by omega) hs,w64_succ (n:=n) (by omega) hn]
      exact ih k (i+1) (step i s) (by omega) (by omega) (by omega) (hI i s h1 (by omega) hs)
  exact key (n - a) Fuel a s (Nat.le_refl _) (by omega) (by simp only [Fuel];omega) h0
theorem foldF_congr {σ:Type} {f g:Nat→σ→σ} {d:Nat} (h:∀ i s,f i s=g (i+d) s) (m i:Nat) (s:σ):foldF f m i s=foldF g m (i+d) s:=by
  induction m generalizing i s with
  | zero=>rfl
  | succ m ih=>show foldF f m (i+1) (f i s)=foldF g m (i+d+1) (g (i+d) s);rw [h,ih,Nat.add_right_comm]
end Go.Pm
namespace Go.Proofs
open Go Go.Pm
set_option maxRecDepth 100000
theorem s70_eq (n a b:Int):s70 n a b=decide (a≤n∧n≤b):=by
  unfold s70;by_cases h:n ≥ a
  · rw [decide_eq_true h,cond_true];exact decide_eq_decide.2 ⟨fun k=>⟨h,k⟩,fun k=>k.2⟩
  · rw [decide_eq_false h,cond_false];exact (decide_eq_false fun k=>h k.1).symm
theorem s74_eq (n a b:Int):s74 n a b=decide (a≤n∧n≤b):=s70_eq n a b
def inc (h:Sl Int) (i:Nat):Bool:=decide ((0≤h.get i∧h.get i≤100000)∧(0 < i→h.get (i - 1) < h.get i))
def inw (p:Sl Int) (i:Nat):Bool:=decide (-1000000≤p.get i∧p.get i≤1000000)
def HOK (h:Sl Int):Prop:=(∀ i,i < h.len→inc h i=true)∧2≤h.len∧h.len≤8
theorem pred_eq {i:Nat} (h:0 < i) (hn:i≤9223372036854775807):w64 ((i:Int) - (1:Int))=((i - 1:Nat):Int):=by
  rw [w64_id (by omega) (by omega)];omega
theorem inc_cond {α : Type} (h : Sl Int) (i : Nat) (hi : i < h.len) (hn : h.len ≤ 9223372036854775807) (a b : α) :
    (cond (!(s70 (h.get i) (0:Int) (100000:Int))) b (cond (decide ((i:Int) > (0:Int))) (cond (decide ((h.get i)≤(h.get ((w64 ((i:Int) - (1:Int))).toNat)))) b a) a))=cond (inc h i) a b:=by
  rw [s70_eq]
  by_cases h1:0≤h.get i∧h.get i≤100000
  · rw [decide_eq_true h1]
    by_cases h2:0 < i
    · rw [decide_eq_true (show (i : Int) > 0 by omega), pred_eq h2 (by omega), Int.toNat_natCast]
      by_cases h3:h.get i≤h.get (i - 1)
      · rw [decide_eq_true h3,show inc h i=false from decide_eq_false fun k=>absurd (k.2 h2) (by omega)];rfl
      · rw [decide_eq_false h3,show inc h i=true from decide_eq_true ⟨h1,fun _=>by omega⟩];rfl
    · rw [decide_eq_false (show ¬ (i:Int) > 0 by omega),show inc h i=true from decide_eq_true ⟨h1,fun k=>absurd k h2⟩];rfl
  · rw [decide_eq_false h1,show inc h i=false from decide_eq_false fun k=>h1 k.1];rfl
theorem s45_ok (h:Sl Int) (w:wf_39 h):p45 h=true∧(s45 h=true↔HOK h):=by
  have := all_loop (good := inc h) (fin := s70 (h.len : Int) 2 8) (n := h.len) (lpS := s45_lp0 h) (lpP := p45_lp0 h)
    (fun k i hi=>by
      show s45_st0 h (s45_lp0 h k) (i:Int)=_
      generalize s45_lp0 h k=S
      unfold s45_st0 s45_at1
      rw [decide_eq_true (show (i:Int) < (h.len:Int) by omega),cond_true,Int.toNat_natCast,← inc_cond h i hi w.1]
      cases s70 (h.get i) 0 100000 <;> cases decide ((i:Int) > 0) <;> rfl)
    (fun k=>by
      show s45_st0 h (s45_lp0 h k) (h.len:Int)=_
      unfold s45_st0
      rw [decide_eq_false (show ¬ (h.len:Int) < (h.len:Int) by omega),cond_false])
    (fun k i hi=>by
      show p45_st0 h (p45_lp0 h k) (i:Int)=_
      generalize p45_lp0 h k=S
      unfold p45_st0 p45_at1
      have w1:=w.1
      rw [decide_eq_true (show (i:Int) < (h.len:Int) by omega),cond_true,Int.toNat_natCast,← inc_cond h i hi w.1,decide_eq_true (show 0≤(i:Int)∧(i:Int) < (h.len:Int) by omega),Bool.true_and,Bool.true_and]
      by_cases h0:0 < i
      · rw [pred_eq h0 (by omega), Int.toNat_natCast, decide_eq_true (show 0 ≤ ((i - 1 : Nat) : Int) ∧ ((i - 1 : Nat) : Int) < (h.len : Int) by omega), Bool.true_and]
        cases s70 (h.get i) 0 100000 <;> cases decide ((i:Int) > 0) <;> rfl
      · rw [decide_eq_false (show ¬ (i : Int) > 0 by omega)]
        cases s70 (h.get i) 0 100000 <;> rfl)
    (fun k=>by
      show p45_st0 h (p45_lp0 h k) (h.len:Int)=_
      unfold p45_st0
      rw [decide_eq_false (show ¬ (h.len:Int) < (h.len:Int) by omega),cond_false])
    w.1
  refine ⟨this.1,this.2.trans ?_⟩
  rw [s70_eq,decide_eq_true_eq]
  exact ⟨fun k=>⟨k.1,by omega,by omega⟩,fun k=>⟨k.1,by have:=k.2;omega⟩⟩
theorem p85_ok {u v w p q r:Int} (hu:0≤u) (huv:u < v) (hvw:v < w) (hw:w≤100000):p85 u v w p q r=true:=by
  unfold p85
  have h1:w64 (v - u)=v - u:=w64_id (by omega) (by omega)
  have h2:w64 (w - v)=w - v:=w64_id (by omega) (by omega)
  have h3:0 < (v - u) * (w - v):=Int.mul_pos (by omega) (by omega)
  have h4:(v - u) * (w - v)≤100000 * 100000:=Int.mul_le_mul (by omega) (by omega) (by omega) (by omega)
  rw [h1,h2,w64_id (by omega) (by omega),decide_eq_true (by omega)];rfl
def kk (h p:Sl Int) (i:Nat) (k:Int):Int :=
  let t:=s85 (h.get i) (h.get (i+1)) (h.get (i+2)) (p.get i) (p.get (i+1)) (p.get (i+2))
  if t > k then t else k
theorem inc_lt {h:Sl Int} {i:Nat} (H:HOK h) (hi:i+1 < h.len):h.get i < h.get (i+1):=by
  have:=of_decide_eq_true (H.1 (i+1) hi)
  exact this.2 (by omega)
theorem inc_in {h:Sl Int} {i:Nat} (H:HOK h) (hi:i < h.len):0≤h.get i∧h.get i≤100000:=(of_decide_eq_true (H.1 i hi)).1
theorem p85_at {h:Sl Int} {i:Nat} (H:HOK h) (hi:i+2 < h.len) (p q r:Int):p85 (h.get i) (h.get (i+1)) (h.get (i+2)) p q r=true :=
  p85_ok (inc_in H (by omega)).1 (inc_lt H (by omega)) (inc_lt H (by omega)) (inc_in H hi).2
theorem s46_ok (h p:Sl Int) (H:HOK h) (hp:p.len=h.len):p46 h p=true∧s46 h p=foldF (kk h p) (h.len - 2) 0 0:=by
  have H3:=H.2
  have := fold_loop (σ := Int) (step := fun i k => kk h p (i - 2) k) (E := id) (EP := fun _ => true) (Inv := fun _ _ => True) (a := 2) (n := h.len) (lpS := s46_lp0 h p) (lpP := p46_lp0 h p)
    (fun k i s h1 hi _=>by
      show s46_st0 h p (s46_lp0 h p k) s (i:Int)=_
      generalize s46_lp0 h p k=S
      unfold s46_st0
      obtain ⟨i,rfl⟩:∃ j,i=j+2:=⟨i - 2,by omega⟩
      have e2:w64 (((i+2:Nat):Int) - 2)=(i:Int):=by rw [w64_id (by omega) (by omega)];omega
      have e1:w64 (((i+2:Nat):Int) - 1)=((i+1:Nat):Int):=by rw [w64_id (by omega) (by omega)];omega
      rw [decide_eq_true (show ((i+2:Nat):Int) < (h.len:Int) by omega),cond_true,e2,e1,Int.toNat_natCast,Int.toNat_natCast,Int.toNat_natCast]
      rfl)
    (fun k s=>by
      show s46_st0 h p (s46_lp0 h p k) s (h.len:Int)=_
      unfold s46_st0
      rw [decide_eq_false (show ¬ (h.len:Int) < (h.len:Int) by omega),cond_false];rfl)
    (fun k i s h1 hi _=>by
      show p46_st0 h p (p46_lp0 h p k) s (i:Int)=_
      generalize p46_lp0 h p k=S
      unfold p46_st0
      obtain ⟨i,rfl⟩:∃ j,i=j+2:=⟨i - 2,by omega⟩
      have e2:w64 (((i+2:Nat):Int) - 2)=(i:Int):=by rw [w64_id (by omega) (by omega)];omega
      have e1:w64 (((i+2:Nat):Int) - 1)=((i+1:Nat):Int):=by rw [w64_id (by omega) (by omega)];omega
      have p86:p86 (h.get i) (h.get (i+1)) (h.get (i+2)) (p.get i) (p.get (i+1)) (p.get (i+2))=true:=p85_at H hi (p.get i) (p.get (i+1)) (p.get (i+2))
      rw [decide_eq_true (show ((i+2:Nat):Int) < (h.len:Int) by omega),cond_true,e2,e1,Int.toNat_natCast,Int.toNat_natCast,Int.toNat_natCast,hp,p86,
        decide_eq_true (show 0≤(i:Int)∧(i:Int) < (h.len:Int) by omega),decide_eq_true (show 0≤((i+1:Nat):Int)∧((i+1:Nat):Int) < (h.len:Int) by omega),
        decide_eq_true (show 0≤((i+2:Nat):Int)∧((i+2:Nat):Int) < (h.len:Int) by omega)]
      rfl)
    (fun k s=>by
      show p46_st0 h p (p46_lp0 h p k) s (h.len:Int)=_
      unfold p46_st0
      rw [decide_eq_false (show ¬ (h.len:Int) < (h.len:Int) by omega),cond_false])
    (fun _ _ _ _ _=>trivial) H3.1 (by omega) 0 trivial
  refine ⟨this.1,this.2.trans ?_⟩
  exact (foldF_congr (f:=kk h p) (g:=fun i k=>kk h p (i - 2) k) (d:=2) (fun i s=>by show _=kk h p (i+2 - 2) s;rw [Nat.add_sub_cancel]) (h.len - 2) 0 0).symm
theorem k44_ok (h p:Sl Int) (H:HOK h) (hp:p.len=h.len):p44_at4 h p=true∧s44_at4 h p=(foldF (kk h p) (h.len - 2) 0 0,0):=by
  have H3:=H.2
  have e0:w64 ((h.len:Int) - 2)=((h.len - 2:Nat):Int):=by rw [w64_id (by omega) (by omega)];omega
  have := fold_loop (σ := Int) (step := kk h p) (E := fun k => (k, (0 : Int))) (EP := fun _ => true) (Inv := fun _ _ => True) (a := 0) (n := h.len - 2) (lpS := s44_lp5 h p) (lpP := p44_lp5 h p)
    (fun k i s h1 hi _=>by
      show s44_st5 h p (s44_lp5 h p k) s (i:Int)=_
      generalize s44_lp5 h p k=S
      unfold s44_st5
      have e2:w64 ((i:Int)+2)=((i+2:Nat):Int):=by rw [w64_id (by omega) (by omega)];omega
      have e1:w64 ((i:Int)+1)=((i+1:Nat):Int):=by rw [w64_id (by omega) (by omega)];omega
      rw [e0,decide_eq_true (show (i:Int) < ((h.len - 2:Nat):Int) by omega),cond_true,e2,e1,Int.toNat_natCast,Int.toNat_natCast,Int.toNat_natCast]
      rfl)
    (fun k s=>by
      show s44_st5 h p (s44_lp5 h p k) s ((h.len - 2:Nat):Int)=_
      unfold s44_st5
      rw [e0,decide_eq_false (show ¬ ((h.len - 2:Nat):Int) < ((h.len - 2:Nat):Int) by omega),cond_false])
    (fun k i s h1 hi _=>by
      show p44_st5 h p (p44_lp5 h p k) s (i:Int)=_
      generalize p44_lp5 h p k=S
      unfold p44_st5
      have e2:w64 ((i:Int)+2)=((i+2:Nat):Int):=by rw [w64_id (by omega) (by omega)];omega
      have e1:w64 ((i:Int)+1)=((i+1:Nat):Int):=by rw [w64_id (by omega) (by omega)];omega
      have p85:=p85_at H (show i+2 < h.len by omega) (p.get i) (p.get (i+1)) (p.get (i+2))
      rw [e0,decide_eq_true (show (i:Int) < ((h.len - 2:Nat):Int) by omega),cond_true,e2,e1,Int.toNat_natCast,Int.toNat_natCast,Int.toNat_natCast,hp,p85,
        decide_eq_true (show 0≤(i:Int)∧(i:Int) < (h.len:Int) by omega),decide_eq_true (show 0≤((i+1:Nat):Int)∧((i+1:Nat):Int) < (h.len:Int) by omega),
        decide_eq_true (show 0≤((i+2:Nat):Int)∧((i+2:Nat):Int) < (h.len:Int) by omega)]
      rfl)
    (fun k s=>by
      show p44_st5 h p (p44_lp5 h p k) s ((h.len - 2:Nat):Int)=_
      unfold p44_st5
      rw [e0,decide_eq_false (show ¬ ((h.len - 2:Nat):Int) < ((h.len - 2:Nat):Int) by omega),cond_false])
    (fun _ _ _ _ _=>trivial) (Nat.zero_le _) (by omega) 0 trivial
  exact this
def VOK (h p:Sl Int):Prop:=HOK h∧p.len=h.len∧∀ i,i < p.len→inw p i=true
theorem s44_ok (h p : Sl Int) (w : wf_39 h) :
    (VOK h p→p44 h p=true∧s44 h p=(foldF (kk h p) (h.len - 2) 0 0,0))∧(¬ VOK h p→p44 h p=true∧s44 h p=(0,2)):=by
  unfold p44 s44
  rw [s74_eq]
  by_cases h1:(2:Int)≤(h.len:Int)∧(h.len:Int)≤8
  · rw [decide_eq_true h1, Bool.not_true, cond_false, cond_false]
    unfold p44_at0 s44_at0
    by_cases h2:p.len=h.len
    · rw [h2, show ((h.len : Int) != (h.len : Int)) = false by simp, cond_false, cond_false]
      have e := ex_loop (good := fun i => inc h i && inw p i) (bad := ((0:Int), (2:Int))) (fin := s44_at4 h p) (finP := p44_at4 h p) (n := h.len) (lpS := s44_lp2 h p) (lpP := p44_lp2 h p)
        (fun k i hi=>by
          show s44_st2 h p (s44_lp2 h p k) (i:Int)=_
          generalize s44_lp2 h p k=S
          have ic:=inc_cond h i hi w.1 (cond (inw p i) (S (w64 ((i:Int)+(1:Int)))) ((0:Int),(2:Int))) ((0:Int),(2:Int))
          unfold s44_st2 s44_at3
          rw [decide_eq_true (show (i:Int) < (h.len:Int) by omega),cond_true,Int.toNat_natCast,s74_eq,s74_eq,show decide (-1000000≤p.get i∧p.get i≤1000000)=inw p i from rfl,← s70_eq]
          refine Eq.trans ?_ (ic.trans ?_)
          · cases inw p i <;> rfl
          · cases inc h i <;> cases inw p i <;> rfl)
        (fun k=>by
          show s44_st2 h p (s44_lp2 h p k) (h.len:Int)=_
          unfold s44_st2
          rw [decide_eq_false (show ¬ (h.len:Int) < (h.len:Int) by omega),cond_false])
        (fun k i hi=>by
          show p44_st2 h p (p44_lp2 h p k) (i:Int)=_
          generalize p44_lp2 h p k=S
          have w1:=w.1
          have ic:=inc_cond h i hi w.1 (cond (inw p i) (S (w64 ((i:Int)+(1:Int)))) true) true
          unfold p44_st2 p44_at3
          rw [decide_eq_true (show (i:Int) < (h.len:Int) by omega),cond_true,Int.toNat_natCast,s74_eq,s74_eq,show decide (-1000000≤p.get i∧p.get i≤1000000)=inw p i from rfl,← s70_eq,h2,
            decide_eq_true (show 0≤(i:Int)∧(i:Int) < (h.len:Int) by omega),Bool.true_and,Bool.true_and]
          refine Eq.trans ?_ (ic.trans ?_)
          · by_cases h0 : 0 < i
            · rw [pred_eq h0 (by omega), Int.toNat_natCast, decide_eq_true (show 0 ≤ ((i - 1 : Nat) : Int) ∧ ((i - 1 : Nat) : Int) < (h.len : Int) by omega), Bool.true_and]
              cases inw p i <;> rfl
            · rw [decide_eq_false (show ¬ (i : Int) > 0 by omega)]
              cases inw p i <;> rfl
          · cases inc h i <;> cases inw p i <;> rfl)
        (fun k=>by
          show p44_st2 h p (p44_lp2 h p k) (h.len:Int)=_
          unfold p44_st2
          rw [decide_eq_false (show ¬ (h.len:Int) < (h.len:Int) by omega),cond_false])
        w.1
      refine ⟨fun V=>?_,fun V=>?_⟩
      · obtain ⟨a, b⟩ := e.1 fun i hi => by rw [V.1.1 i hi, V.2.2 i (by omega)]; rfl
        obtain ⟨c,d⟩:=k44_ok h p V.1 h2
        exact ⟨Eq.trans a c,Eq.trans b d⟩
      · refine e.2 fun hh => V ⟨⟨fun i hi => ?_, by omega, by omega⟩, h2, fun i hi => ?_⟩
        · exact (Bool.and_eq_true _ _ ▸ hh i hi).1
        · exact (Bool.and_eq_true _ _ ▸ hh i (by omega)).2
    · rw [show ((p.len : Int) != (h.len : Int)) = true by simp; omega, cond_true, cond_true]
      exact ⟨fun V=>absurd V.2.1 h2,fun _=>⟨rfl,rfl⟩⟩
  · rw [decide_eq_false h1, Bool.not_false, cond_true, cond_true]
    exact ⟨fun V=>absurd V.1.2 (by omega),fun _=>⟨rfl,rfl⟩⟩
theorem and_fold (p:Sl Int) (m i:Nat) (v:Bool):foldF (fun i v=>v && inw p i) m i v=true↔v=true∧∀ j,i≤j→j < i+m→inw p j=true:=by
  induction m generalizing i v with
  | zero=>exact ⟨fun h=>⟨h,fun j a b=>absurd b (by omega)⟩,fun h=>h.1⟩
  | succ m ih =>
    show foldF _ m (i+1) (v && inw p i)=true↔_
    rw [ih,Bool.and_eq_true]
    refine ⟨fun h=>⟨h.1.1,fun j a b=>?_⟩,fun h=>⟨⟨h.1,h.2 i (Nat.le_refl _) (by omega)⟩,fun j a b=>h.2 j (by omega) (by omega)⟩⟩
    by_cases hj:j=i
    · rw [hj];exact h.1.2
    · exact h.2 j (by omega) (by omega)
theorem kinks_true (a0:(Sl Int)) (a1:(Sl Int)) (w0:wf_39 a0) (w1:wf_39 a1):p9 a0 a1=true∧s9 a0 a1=true:=by
  unfold p9 s9
  by_cases h1:(a0.len:Int) > 20
  · rw [decide_eq_true h1];exact ⟨rfl,rfl⟩
  by_cases h2:(a1.len:Int) > 20
  · rw [decide_eq_false h1,decide_eq_true h2];exact ⟨rfl,rfl⟩
  rw [decide_eq_false h1,decide_eq_false h2,cond_false,cond_false,cond_false,cond_false]
  unfold p9_at0 s9_at0 p9_at1 s9_at1
  obtain ⟨e1,e2⟩:=s44_ok a0 a1 w0
  obtain ⟨f1,f2⟩:=s45_ok a0 w0
  have ep:p44 a0 a1=true:=by by_cases V:VOK a0 a1;exact (e1 V).1;exact (e2 V).1
  rw [ep,f1,decide_eq_true rfl,Bool.true_and,Bool.true_and]
  generalize hk:s44 a0 a1=ke at e1 e2
  obtain ⟨k,e⟩:=ke
  -- the loop over the places
  have lp:∀ v:Bool,∃ b:Bool,(b=true↔v=true∧∀ i,i < a1.len→inw a1 i=true)∧p9_at2 a0 a1 k e v=p9_at4 a0 a1 k e b∧s9_at2 a0 a1 k e v=s9_at4 a0 a1 k e b:=by
    intro v
    have := fold_loop (σ := Bool) (step := fun i v => v && inw a1 i) (E := s9_at4 a0 a1 k e) (EP := p9_at4 a0 a1 k e) (Inv := fun _ _ => True) (a := 0) (n := a1.len) (lpS := s9_lp3 a0 a1 k e) (lpP := p9_lp3 a0 a1 k e)
      (fun m i v _ hi _=>by
        show s9_st3 a0 a1 k e (s9_lp3 a0 a1 k e m) v (i:Int)=_
        generalize s9_lp3 a0 a1 k e m=S
        unfold s9_st3
        rw [decide_eq_true (show (i:Int) < (a1.len:Int) by omega),cond_true,Int.toNat_natCast]
        cases v
        · rfl
        · unfold inw
          by_cases g1:a1.get i ≥ -1000000
          · rw [decide_eq_true g1,cond_true,cond_true,Bool.true_and];congr 1;exact decide_eq_decide.2 ⟨fun g=>⟨g1,g⟩,fun g=>g.2⟩
          · rw [decide_eq_false g1,cond_true,cond_false,decide_eq_false (fun g=>g1 g.1)];rfl)
      (fun m v=>by
        show s9_st3 a0 a1 k e (s9_lp3 a0 a1 k e m) v (a1.len:Int)=_
        unfold s9_st3
        rw [decide_eq_false (show ¬ (a1.len:Int) < (a1.len:Int) by omega),cond_false])
      (fun m i v _ hi _=>by
        show p9_st3 a0 a1 k e (p9_lp3 a0 a1 k e m) v (i:Int)=_
        generalize p9_lp3 a0 a1 k e m=S
        unfold p9_st3
        rw [decide_eq_true (show (i:Int) < (a1.len:Int) by omega),cond_true,Int.toNat_natCast,decide_eq_true (show 0≤(i:Int)∧(i:Int) < (a1.len:Int) by omega)]
        cases v
        · rfl
        · unfold inw
          by_cases g1:a1.get i ≥ -1000000
          · rw [decide_eq_true g1,cond_true,cond_true,Bool.true_and,Bool.true_and,Bool.true_and];congr 1;exact decide_eq_decide.2 ⟨fun g=>⟨g1,g⟩,fun g=>g.2⟩
          · rw [decide_eq_false g1,cond_true,cond_false,decide_eq_false (fun g=>g1 g.1)];rfl)
      (fun m v=>by
        show p9_st3 a0 a1 k e (p9_lp3 a0 a1 k e m) v (a1.len:Int)=_
        unfold p9_st3
        rw [decide_eq_false (show ¬ (a1.len:Int) < (a1.len:Int) by omega),cond_false])
      (fun _ _ _ _ _=>trivial) (Nat.zero_le _) w1.1 v trivial
    refine ⟨_,(and_fold a1 (a1.len - 0) 0 v).trans ⟨fun h=>⟨h.1,fun i hi=>h.2 i (Nat.zero_le _) (by omega)⟩,fun h=>⟨h.1,fun i _ hi=>h.2 i (by omega)⟩⟩,this.1,this.2⟩
  have fin:∀ b:Bool,(b=true↔VOK a0 a1)→p9_at4 a0 a1 k e b=true∧s9_at4 a0 a1 k e b=true:=by
    intro b hb
    unfold p9_at4 s9_at4
    cases b
    · have hv : ¬ VOK a0 a1 := fun h => by have := hb.2 h; cases this
      have:=(e2 hv).2
      cases this
      exact ⟨rfl,rfl⟩
    · have hv := hb.1 rfl
      have:=(e1 hv).2
      cases this
      obtain ⟨g1,g2⟩:=s46_ok a0 a1 hv.1 hv.2.1
      rw [Bool.not_true,cond_false,cond_false]
      unfold p9_at5 s9_at5
      rw [g1,g2]
      simp
  cases hs:s45 a0
  · obtain ⟨b, hb, q1, q2⟩ := lp false
    rw [cond_false,cond_false,q1,q2]
    refine fin _ (hb.trans ⟨fun h=>absurd h.1 Bool.false_ne_true,fun h=>?_⟩)
    have:=f2.2 h.1
    rw [hs] at this;cases this
  · obtain ⟨b, hb, q1, q2⟩ := lp ((a1.len : Int) == (a0.len : Int))
    rw [cond_true,cond_true,q1,q2]
    refine fin _ (hb.trans ?_)
    rw [beq_iff_eq]
    exact ⟨fun h=>⟨f2.1 hs,by omega,h.2⟩,fun h=>⟨by have:=h.2.1;omega,h.2.2⟩⟩
end Go.Proofs
