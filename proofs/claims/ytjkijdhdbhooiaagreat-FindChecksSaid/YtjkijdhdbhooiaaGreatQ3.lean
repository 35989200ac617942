/- Part 3 of what the proof rests on: a machine that runs functions of the program on pure values, proved sound; the functions that the law reaches, what they compute, and plain laws of that. -/
import Derived.Test.YtjkijdhdbhooiaaGreatQ2
import Derived.OrdersIn
import Derived.RangeFuncNested
set_option linter.all false
namespace Go.Pm
variable [DrawZ]

def OpAct.fp : OpAct → List (Nat × Bool)
  | .no => []
  | .val fp _ _ _ => fp
  | .chk fp _ _ _ _ => fp
def OpAct.u : OpAct → List (Nat × AO)
  | .no => []
  | .val _ _ u _ => u
  | .chk _ _ _ u _ => u
def OpAct.kl : OpAct → List Nat
  | .no => []
  | .val _ _ _ k => k
  | .chk _ _ _ _ k => k
def OpAct.gives : OpAct → DV → Prop
  | .no, _ => False
  | .val _ d _ _, d' => d' = d
  | .chk _ _ d _ _, d' => d' = d

def Men (o : Oper) (ev : Operand → DV) (ob : Nat → Option AO) (fp : List (Nat × Bool)) (L : Nat) : Prop :=
  (∃ x ∈ o.op.operands.toList, L ∈ dvV (ev x)) ∨ ∃ y ∈ fp, ∃ o', ob y.1 = some o' ∧ L ∈ aoV o'

structure ActOk (P : Program) (Γ : Ctrs) (o : Oper) (ev : Operand → DV) (ob : Nat → Option AO) (A : OpAct) : Prop where
  wr : ∀ x ∈ A.u, (x.1, true) ∈ A.fp
  kl : A.kl = [] ∨ ∃ L, A.kl = [L] ∧ (L, true) ∈ A.fp
  labu : ∀ x ∈ A.u, ∀ L ∈ aoV x.2, Men o ev ob A.fp L
  labd : ∀ d, A.gives d → ∀ L ∈ dvV d, Men o ev ob A.fp L ∨ (L, true) ∈ A.fp
  congr : ∀ ev' ob', (∀ x ∈ o.op.operands.toList, ev' x = ev x) → (∀ y ∈ A.fp, ob' y.1 = ob y.1) → act P Γ o ev' ob' = A

section
variable {P : Program} {Γ : Ctrs} {o : Oper} {ev : Operand → DV} {ob : Nat → Option AO} {A : OpAct}

theorem ActOk.pure {fp : List (Nat × Bool)} {d : DV} (hd : ∀ L ∈ dvV d, Men o ev ob fp L ∨ (L, true) ∈ fp)
    (hc : ∀ ev' ob', (∀ x ∈ o.op.operands.toList, ev' x = ev x) → (∀ y ∈ fp, ob' y.1 = ob y.1) → act P Γ o ev' ob' = .val fp d [] []) : ActOk P Γ o ev ob (.val fp d [] []) :=
  ⟨fun x hx => by simp [OpAct.u] at hx, .inl rfl, fun x hx => by simp [OpAct.u] at hx, fun d' h => by simp only [OpAct.gives] at h; subst h; exact hd, hc⟩
theorem ActOk.pchk {fp : List (Nat × Bool)} {s : CP} {d : DV} (hd : ∀ L ∈ dvV d, Men o ev ob fp L ∨ (L, true) ∈ fp)
    (hc : ∀ ev' ob', (∀ x ∈ o.op.operands.toList, ev' x = ev x) → (∀ y ∈ fp, ob' y.1 = ob y.1) → act P Γ o ev' ob' = .chk fp s d [] []) : ActOk P Γ o ev ob (.chk fp s d [] []) :=
  ⟨fun x hx => by simp [OpAct.u] at hx, .inl rfl, fun x hx => by simp [OpAct.u] at hx, fun d' h => by simp only [OpAct.gives] at h; subst h; exact hd, hc⟩
theorem no_men {fp : List (Nat × Bool)} (v : PV) : ∀ L ∈ dvV (.p v), Men o ev ob fp L ∨ (L, true) ∈ fp := fun L hL => by simp [dvV, d1V, clV] at hL
theorem dv_men {fp : List (Nat × Bool)} {x : Operand} {d : DV} (hx : x ∈ o.op.operands.toList) (h : ∀ L ∈ dvV d, L ∈ dvV (ev x)) : ∀ L ∈ dvV d, Men o ev ob fp L ∨ (L, true) ∈ fp :=
  fun L hL => .inl (.inl ⟨x, hx, h L hL⟩)

theorem clV_lab {c : Cl} : ∀ L ∈ clV c, L ∈ clLab c := by cases c <;> simp [clV, clLab]

theorem rdCl_V {ag : Bool} {m off : Nat} {cells : List Cl} {d : D1} (hr : rdCl ag m cells off = some d) : ∀ L ∈ d1V d, L ∈ cells.flatMap clV := by
  cases ag with
  | true =>
    simp only [rdCl] at hr
    split at hr
    · simp only [Option.some.injEq] at hr; subst hr
      intro L hL
      simp only [d1V, List.mem_flatMap] at hL ⊢
      obtain ⟨c, hc, hL⟩ := hL
      exact ⟨c, List.mem_of_mem_drop (List.mem_of_mem_take hc), hL⟩
    · cases hr
  | false =>
    simp only [rdCl] at hr
    split at hr
    · rename_i x hx
      simp only [Option.some.injEq] at hr; subst hr
      intro L hL
      simp only [d1V] at hL
      exact List.mem_flatMap.2 ⟨x, List.mem_of_getElem? hx, hL⟩
    · cases hr
theorem pcells_V (cells : List PV) : (cells.map Cl.p).flatMap clV = [] := by
  induction cells with
  | nil => rfl
  | cons c r ih => simp [clV, ih]
theorem rdCl_pV {ag : Bool} {m off : Nat} {cells : List PV} {d : D1} (hr : rdCl ag m (cells.map .p) off = some d) : d1V d = [] := by
  have := rdCl_V hr
  rw [pcells_V] at this
  cases hd : d1V d with
  | nil => rfl
  | cons x l => have := this x (by rw [hd]; exact List.mem_cons_self); simp at this

theorem frz0_congr {ob' : Nat → Option AO} {c : Cl} (h : ∀ L ∈ clLab c, ob' L = ob L) : frz0 ob' c = frz0 ob c := by
  cases c <;> first | rfl | (simp only [frz0]; rw [h _ (by simp [clLab])])
theorem frzL0_congr {ob' : Nat → Option AO} : ∀ {cs : List Cl}, (∀ L ∈ cs.flatMap clLab, ob' L = ob L) → frzL0 ob' cs = frzL0 ob cs
  | [], _ => rfl
  | c :: cs, h => by
    simp only [frzL0]
    rw [frz0_congr (fun L hL => h L (by simp [hL])), frzL0_congr (fun L hL => h L (by simp only [List.flatMap_cons, List.mem_append]; exact .inr hL))]
theorem frzB_congr {ob' : Nat → Option AO} {c : Cl} (h : ∀ L ∈ clLab c, ob' L = ob L ∧ ∀ o', ob L = some o' → ∀ M ∈ aoLab o', ob' M = ob M) : frzB ob' c = frzB ob c := by
  cases c with
  | ptr L off =>
    obtain ⟨h1, h2⟩ := h L (by simp [clLab])
    simp only [frzB]
    rw [h1]
    cases hL : ob L with
    | none => rfl
    | some o' =>
      cases o' with
      | box ty cells => simp only []; rw [frzL0_congr (fun M hM => h2 _ hL M hM)]
      | _ => rfl
  | _ => exact frz0_congr fun L hL => (h L hL).1
theorem frzBL_congr {ob' : Nat → Option AO} : ∀ {cs : List Cl}, (∀ L ∈ cs.flatMap clLab, ob' L = ob L ∧ ∀ o', ob L = some o' → ∀ M ∈ aoLab o', ob' M = ob M) → frzBL ob' cs = frzBL ob cs
  | [], _ => rfl
  | c :: cs, h => by
    simp only [frzBL]
    rw [frzB_congr (fun L hL => h L (by simp [hL])), frzBL_congr (fun L hL => h L (by simp only [List.flatMap_cons, List.mem_append]; exact .inr hL))]
def DC (ob ob' : Nat → Option AO) (L : Nat) : Prop := ob' L = ob L ∧ ∀ o', ob L = some o' → ∀ M ∈ aoLab o', ob' M = ob M ∧ ∀ o2, ob M = some o2 → ∀ N ∈ aoLab o2, ob' N = ob N
theorem frzA_congr {ob' : Nat → Option AO} {c : Cl} (h : ∀ L ∈ clLab c, DC ob ob' L) : frzA ob' c = frzA ob c := by
  cases c with
  | ptr L off =>
    obtain ⟨h1, h2⟩ := h L (by simp [clLab])
    simp only [frzA]
    rw [h1]
    cases hL : ob L with
    | none => rfl
    | some o' =>
      cases o' with
      | box ty cells => simp only []; rw [frzBL_congr (fun M hM => h2 _ hL M hM)]
      | _ => rfl
  | _ => exact frz0_congr fun L hL => (h L hL).1
theorem frzAL_congr {ob' : Nat → Option AO} : ∀ {cs : List Cl}, (∀ L ∈ cs.flatMap clLab, DC ob ob' L) → frzAL ob' cs = frzAL ob cs
  | [], _ => rfl
  | c :: cs, h => by
    simp only [frzAL]
    rw [frzA_congr (fun L hL => h L (by simp [hL])), frzAL_congr (fun L hL => h L (by simp only [List.flatMap_cons, List.mem_append]; exact .inr hL))]
theorem capC_lab : ∀ caps : List CapE, (caps.map capC).flatMap clLab = capLab caps
  | [] => rfl
  | .v _ :: r => by simp only [List.map_cons, List.flatMap_cons, capC, clLab, List.nil_append, capLab]; exact capC_lab r
  | .b L :: r => by simp only [List.map_cons, List.flatMap_cons, capC, clLab, capLab, List.cons_append, List.nil_append]; rw [capC_lab r]
theorem frz_congr {ob' : Nat → Option AO} {c : Cl} (h : ∀ L ∈ clLab c, DC ob ob' L) : frz ob' c = frz ob c := by
  cases c with
  | clo f caps =>
    simp only [frz]
    rw [frzAL_congr (ob := ob) (ob' := ob') (cs := caps.map capC) (fun L hL => h L (by rw [capC_lab] at hL; exact hL))]
  | _ => exact frzA_congr h
theorem frzL_congr {ob' : Nat → Option AO} : ∀ {cs : List Cl}, (∀ L ∈ cs.flatMap clLab, DC ob ob' L) → frzL ob' cs = frzL ob cs
  | [], _ => rfl
  | c :: cs, h => by
    simp only [frzL]
    rw [frz_congr (fun L hL => h L (by simp [hL])), frzL_congr (fun L hL => h L (by simp only [List.flatMap_cons, List.mem_append]; exact .inr hL))]
theorem deep_mem {ob : Nat → Option AO} {d : DV} {k : Nat} : k ∈ deepLab ob d ↔ ∃ L ∈ dvLab d, k = L ∨ ∃ o, ob L = some o ∧ ∃ M ∈ aoLab o, k = M ∨ ∃ o2, ob M = some o2 ∧ k ∈ aoLab o2 := by
  unfold deepLab
  rw [List.mem_flatMap]
  refine exists_congr fun L => and_congr_right fun _ => ?_
  rw [List.mem_cons]
  refine or_congr_right ?_
  cases ob L with
  | none => simp
  | some o =>
    simp only [Option.some.injEq, exists_eq_left', List.mem_flatMap, List.mem_cons]
    refine exists_congr fun M => and_congr_right fun _ => or_congr_right ?_
    cases ob M with
    | none => simp
    | some o2 => simp
theorem frzD_congr {ob' : Nat → Option AO} {d : DV} (h : ∀ L ∈ deepLab ob d, ob' L = ob L) : frzD ob' d = frzD ob d := by
  have key : ∀ L ∈ dvLab d, DC ob ob' L := fun L hL =>
    ⟨h L (deep_mem.2 ⟨L, hL, .inl rfl⟩), fun o' ho' M hM => ⟨h M (deep_mem.2 ⟨L, hL, .inr ⟨o', ho', M, hM, .inl rfl⟩⟩), fun o2 ho2 N hN => h N (deep_mem.2 ⟨L, hL, .inr ⟨o', ho', M, hM, .inr ⟨o2, ho2, hN⟩⟩⟩)⟩⟩
  cases d with
  | one d =>
    cases d with
    | c c => simp only [frzD]; rw [frz_congr key]
    | agg cs => simp only [frzD]; rw [frzL_congr key]
  | tup ds => rfl
theorem frzDs_congr {ob' : Nat → Option AO} : ∀ {ds : List DV}, (∀ L ∈ ds.flatMap (deepLab ob), ob' L = ob L) → frzDs ob' ds = frzDs ob ds
  | [], _ => rfl
  | d :: ds, h => by
    simp only [frzDs]
    rw [frzD_congr (fun L hL => h L (by simp [hL])), frzDs_congr (fun L hL => h L (by simp only [List.flatMap_cons, List.mem_append]; exact .inr hL))]
theorem deepLab_congr {ob' : Nat → Option AO} {d : DV} (h : ∀ L ∈ deepLab ob d, ob' L = ob L) : deepLab ob' d = deepLab ob d := by
  have fm : ∀ (l : List Nat) (f f' : Nat → List Nat), (∀ L ∈ l, f' L = f L) → l.flatMap f' = l.flatMap f := by
    intro l f f'
    induction l with
    | nil => intro _; rfl
    | cons L l ih =>
      intro h
      simp only [List.flatMap_cons]
      rw [h L (by simp), ih (fun M hM => h M (List.mem_cons_of_mem _ hM))]
  unfold deepLab
  refine fm _ _ _ fun L hL => ?_
  rw [h L (deep_mem.2 ⟨L, hL, .inl rfl⟩)]
  cases hL2 : ob L with
  | none => rfl
  | some o =>
    refine congrArg (L :: ·) (fm _ _ _ fun M hM => ?_)
    rw [h M (deep_mem.2 ⟨L, hL, .inr ⟨o, hL2, M, hM, .inl rfl⟩⟩)]

theorem frz0_keys {c : Cl} {v : PV} {u : Upd} (h : frz0 ob c = some (v, u)) : ∀ x ∈ u, x.1 ∈ clLab c ∧ aoV x.2 = [] := by
  unfold frz0 at h
  split at h
  · simp only [Option.some.injEq, Prod.mk.injEq] at h; rw [← h.2]; intro x hx; simp at hx
  · split at h
    · simp only [Option.some.injEq, Prod.mk.injEq] at h; rw [← h.2]; intro x hx; simp at hx; subst hx; exact ⟨by simp [clLab], rfl⟩
    · simp only [Option.some.injEq, Prod.mk.injEq] at h; rw [← h.2]; intro x hx; simp at hx
    · simp only [Option.some.injEq, Prod.mk.injEq] at h; rw [← h.2]; intro x hx; simp only [List.mem_singleton] at hx; subst hx; exact ⟨by simp [clLab], rfl⟩
    · cases h
  · cases h
theorem frzL0_keys : ∀ {cs : List Cl} {l : List PV} {u : Upd}, frzL0 ob cs = some (l, u) → ∀ x ∈ u, x.1 ∈ cs.flatMap clLab ∧ aoV x.2 = []
  | [], l, u, h => by simp [frzL0] at h; rw [h.2]; intro x hx; simp at hx
  | c :: cs, l, u, h => by
    simp only [frzL0] at h
    split at h
    · rename_i v u1 l2 u2 h1 h2
      simp only [Option.some.injEq, Prod.mk.injEq] at h; rw [← h.2]
      intro x hx
      simp only [List.flatMap_cons, List.mem_append]
      rcases List.mem_append.1 hx with hx | hx
      · exact ⟨.inl (frz0_keys h1 x hx).1, (frz0_keys h1 x hx).2⟩
      · exact ⟨.inr (frzL0_keys h2 x hx).1, (frzL0_keys h2 x hx).2⟩
    · cases h
theorem frzB_keys {c : Cl} {v : PV} {u : Upd} (h : frzB ob c = some (v, u)) : ∀ x ∈ u, (x.1 ∈ clLab c ∨ ∃ L ∈ clLab c, ∃ o', ob L = some o' ∧ x.1 ∈ aoLab o') ∧ aoV x.2 = [] := by
  unfold frzB at h
  split at h
  · split at h
    · rename_i L off _x ty cells hL
      split at h
      · rename_i l us hl
        simp only [Option.some.injEq, Prod.mk.injEq] at h; rw [← h.2]
        intro x hx
        rcases List.mem_append.1 hx with hx | hx
        · exact ⟨.inr ⟨L, by simp [clLab], _, hL, (frzL0_keys hl x hx).1⟩, (frzL0_keys hl x hx).2⟩
        · simp at hx; subst hx; exact ⟨.inl (by simp [clLab]), rfl⟩
      · cases h
    · simp only [Option.some.injEq, Prod.mk.injEq] at h; rw [← h.2]; intro x hx; simp at hx
    · cases h
  · intro x hx; exact ⟨.inl (frz0_keys h x hx).1, (frz0_keys h x hx).2⟩
theorem frzBL_keys : ∀ {cs : List Cl} {l : List PV} {u : Upd}, frzBL ob cs = some (l, u) → ∀ x ∈ u, (x.1 ∈ cs.flatMap clLab ∨ ∃ L ∈ cs.flatMap clLab, ∃ o', ob L = some o' ∧ x.1 ∈ aoLab o') ∧ aoV x.2 = []
  | [], l, u, h => by simp [frzBL] at h; rw [h.2]; intro x hx; simp at hx
  | c :: cs, l, u, h => by
    simp only [frzBL] at h
    split at h
    · rename_i v u1 l2 u2 h1 h2
      simp only [Option.some.injEq, Prod.mk.injEq] at h; rw [← h.2]
      intro x hx
      simp only [List.flatMap_cons, List.mem_append]
      rcases List.mem_append.1 hx with hx | hx
      · obtain ⟨h3, h4⟩ := frzB_keys h1 x hx
        refine ⟨?_, h4⟩
        rcases h3 with h3 | ⟨L, hL, o', h5, h6⟩
        · exact .inl (.inl h3)
        · exact .inr ⟨L, .inl hL, o', h5, h6⟩
      · obtain ⟨h3, h4⟩ := frzBL_keys h2 x hx
        refine ⟨?_, h4⟩
        rcases h3 with h3 | ⟨L, hL, o', h5, h6⟩
        · exact .inl (.inr h3)
        · exact .inr ⟨L, .inr hL, o', h5, h6⟩
    · cases h
def RC (ob : Nat → Option AO) (k : Nat) (l : List Nat) : Prop := ∃ L ∈ l, k = L ∨ ∃ o, ob L = some o ∧ ∃ M ∈ aoLab o, k = M ∨ ∃ o2, ob M = some o2 ∧ k ∈ aoLab o2
theorem RC.mono {ob : Nat → Option AO} {k : Nat} {l m : List Nat} (h : RC ob k l) (hl : ∀ x ∈ l, x ∈ m) : RC ob k m := by
  obtain ⟨L, h1, h2⟩ := h; exact ⟨L, hl L h1, h2⟩
theorem frzA_keys {c : Cl} {v : PV} {u : Upd} (h : frzA ob c = some (v, u)) : ∀ x ∈ u, RC ob x.1 (clLab c) ∧ aoV x.2 = [] := by
  unfold frzA at h
  split at h
  · split at h
    · rename_i L off _x ty cells hL
      split at h
      · rename_i l us hl
        simp only [Option.some.injEq, Prod.mk.injEq] at h; rw [← h.2]
        intro x hx
        rcases List.mem_append.1 hx with hx | hx
        · obtain ⟨h3, h4⟩ := frzBL_keys hl x hx
          refine ⟨⟨L, by simp [clLab], .inr ⟨_, hL, ?_⟩⟩, h4⟩
          rcases h3 with h3 | ⟨M, hM, o2, h5, h6⟩
          · exact ⟨x.1, h3, .inl rfl⟩
          · exact ⟨M, hM, .inr ⟨o2, h5, h6⟩⟩
        · simp at hx; subst hx; exact ⟨⟨L, by simp [clLab], .inl rfl⟩, rfl⟩
      · cases h
    · simp only [Option.some.injEq, Prod.mk.injEq] at h; rw [← h.2]; intro x hx; simp at hx
    · cases h
  · intro x hx; exact ⟨⟨x.1, (frz0_keys h x hx).1, .inl rfl⟩, (frz0_keys h x hx).2⟩
theorem frzAL_keys : ∀ {cs : List Cl} {l : List PV} {u : Upd}, frzAL ob cs = some (l, u) → ∀ x ∈ u, RC ob x.1 (cs.flatMap clLab) ∧ aoV x.2 = []
  | [], l, u, h => by simp [frzAL] at h; rw [h.2]; intro x hx; simp at hx
  | c :: cs, l, u, h => by
    simp only [frzAL] at h
    split at h
    · rename_i v u1 l2 u2 h1 h2
      simp only [Option.some.injEq, Prod.mk.injEq] at h; rw [← h.2]
      intro x hx
      simp only [List.flatMap_cons]
      rcases List.mem_append.1 hx with hx | hx
      · exact ⟨(frzA_keys h1 x hx).1.mono fun y hy => List.mem_append.2 (.inl hy), (frzA_keys h1 x hx).2⟩
      · exact ⟨(frzAL_keys h2 x hx).1.mono fun y hy => List.mem_append.2 (.inr hy), (frzAL_keys h2 x hx).2⟩
    · cases h
theorem frz_keys {c : Cl} {v : PV} {u : Upd} (h : frz ob c = some (v, u)) : ∀ x ∈ u, RC ob x.1 (clLab c) ∧ aoV x.2 = [] := by
  unfold frz at h
  split at h
  · rename_i f caps
    split at h
    · rename_i l us hl
      simp only [Option.some.injEq, Prod.mk.injEq] at h
      obtain ⟨rfl, rfl⟩ := h
      have := frzAL_keys hl
      rw [capC_lab] at this
      exact this
    · cases h
  · exact frzA_keys h
theorem frzL_keys : ∀ {cs : List Cl} {l : List PV} {u : Upd}, frzL ob cs = some (l, u) → ∀ x ∈ u, RC ob x.1 (cs.flatMap clLab) ∧ aoV x.2 = []
  | [], l, u, h => by simp [frzL] at h; rw [h.2]; intro x hx; simp at hx
  | c :: cs, l, u, h => by
    simp only [frzL] at h
    split at h
    · rename_i v u1 l2 u2 h1 h2
      simp only [Option.some.injEq, Prod.mk.injEq] at h; rw [← h.2]
      intro x hx
      simp only [List.flatMap_cons]
      rcases List.mem_append.1 hx with hx | hx
      · exact ⟨(frz_keys h1 x hx).1.mono fun y hy => List.mem_append.2 (.inl hy), (frz_keys h1 x hx).2⟩
      · exact ⟨(frzL_keys h2 x hx).1.mono fun y hy => List.mem_append.2 (.inr hy), (frzL_keys h2 x hx).2⟩
    · cases h
theorem frzD_keys {d : DV} {v : PA} {u : Upd} (h : frzD ob d = some (v, u)) : ∀ x ∈ u, x.1 ∈ deepLab ob d ∧ aoV x.2 = [] := by
  have deep : ∀ k, RC ob k (dvLab d) → k ∈ deepLab ob d := fun k hk => deep_mem.2 hk
  unfold frzD at h
  split at h
  · split at h
    · rename_i v' u' h1
      simp only [Option.some.injEq, Prod.mk.injEq] at h; rw [← h.2]
      intro x hx; obtain ⟨h3, h4⟩ := frz_keys h1 x hx; exact ⟨deep _ h3, h4⟩
    · cases h
  · split at h
    · rename_i v' u' h1
      simp only [Option.some.injEq, Prod.mk.injEq] at h; rw [← h.2]
      intro x hx; obtain ⟨h3, h4⟩ := frzL_keys h1 x hx; exact ⟨deep _ h3, h4⟩
    · cases h
  · cases h
theorem frzDs_keys : ∀ {ds : List DV} {l : List PA} {u : Upd}, frzDs ob ds = some (l, u) → ∀ x ∈ u, x.1 ∈ ds.flatMap (deepLab ob) ∧ aoV x.2 = []
  | [], l, u, h => by simp [frzDs] at h; rw [h.2]; intro x hx; simp at hx
  | d :: ds, l, u, h => by
    simp only [frzDs] at h
    split at h
    · rename_i v u1 l2 u2 h1 h2
      simp only [Option.some.injEq, Prod.mk.injEq] at h; rw [← h.2]
      intro x hx
      simp only [List.flatMap_cons, List.mem_append]
      rcases List.mem_append.1 hx with hx | hx
      · exact ⟨.inl (frzD_keys h1 x hx).1, (frzD_keys h1 x hx).2⟩
      · exact ⟨.inr (frzDs_keys h2 x hx).1, (frzDs_keys h2 x hx).2⟩
    · cases h
end
end Go.Pm
namespace Go.Pm
variable [DrawZ]

section
variable {P : Program} {Γ : Ctrs} {o : Oper} {ev : Operand → DV} {ob : Nat → Option AO} {A : OpAct}

theorem fmc {α β : Type} {f h : α → List β} : ∀ {l : List α}, (∀ x ∈ l, f x = h x) → l.flatMap f = l.flatMap h
  | [], _ => rfl
  | x :: l, hf => by simp only [List.flatMap_cons]; rw [hf x List.mem_cons_self, fmc fun y hy => hf y (List.mem_cons_of_mem _ hy)]

theorem ok_move {x : Operand} (hop : o.op = .move x ∨ o.op = .assign x) : ActOk P Γ o ev ob (.val [] (ev x) [] []) := by
  have hx : x ∈ o.op.operands.toList := by rcases hop with h | h <;> simp [h, Op.operands]
  refine ActOk.pure (dv_men hx fun L hL => hL) fun ev' ob' he _ => ?_
  rcases hop with h | h <;> simp only [act, h, he x hx]

theorem pickD_V {b : Bool} {x y : DV} : ∀ L ∈ dvV (pickD b x y), L ∈ dvV x ∨ L ∈ dvV y := by
  unfold pickD
  split
  · intro L hL; simp [dvV, d1V, clV] at hL
  · cases b with
    | true => exact fun L hL => .inl hL
    | false => exact fun L hL => .inr hL

theorem ok_pick {c x y : Operand} {t : Bool} (hop : o.op = .pick c x y) (hc : ev c = .one (.c (.p (.bool t)))) : ActOk P Γ o ev ob (.val [] (pickD t (ev x) (ev y)) [] []) := by
  have hcm : c ∈ o.op.operands.toList := by simp [hop, Op.operands]
  have hx : x ∈ o.op.operands.toList := by simp [hop, Op.operands]
  have hy : y ∈ o.op.operands.toList := by simp [hop, Op.operands]
  refine ActOk.pure (fun L hL => ?_) fun ev' ob' he _ => ?_
  · rcases pickD_V L hL with h | h
    · exact .inl (.inl ⟨x, hx, h⟩)
    · exact .inl (.inl ⟨y, hy, h⟩)
  · simp only [act, aPk, hop, he c hcm, he x hx, he y hy, hc]

theorem ok_putB {ao : AO} {d : Nat → DV} (hlo : ∀ L ∈ aoV ao, Men o ev ob [] L) (hld : ∀ t, ∀ L ∈ dvV (d t), L = t)
    (hc : ∀ ev' ob', (∀ x ∈ o.op.operands.toList, ev' x = ev x) → act P Γ o ev' ob' = putB ob' o.dst ao d) (hA : putB ob o.dst ao d = A) (hs : A.safe) : ActOk P Γ o ev ob A := by
  have hA' := hA
  unfold putB at hA
  split at hA
  · rename_i t ht
    split at hA
    · rename_i hn
      subst hA
      have men : ∀ L, Men o ev ob [] L → Men o ev ob [(t, true)] L := fun L h => h.imp_right fun ⟨y, hy, _⟩ => by simp at hy
      refine ⟨fun x hx => ?_, .inl rfl, fun x hx L hL => ?_, fun d' hd' L hL => ?_, fun ev' ob' he hob => ?_⟩
      · simp only [OpAct.u, List.mem_singleton] at hx; subst hx; simp [OpAct.fp]
      · simp only [OpAct.u, List.mem_singleton] at hx; subst hx; exact men L (hlo L hL)
      · simp only [OpAct.gives] at hd'; subst hd'; rw [hld t L hL]; exact .inr (by simp [OpAct.fp])
      · rw [hc ev' ob' he]
        have := hob (t, true) (by simp [OpAct.fp])
        simp only at this
        simp only [putB, ht, this, hn]
    · subst hA; exact hs.elim
  · subst hA; exact hs.elim

theorem zeroT_V {t : TypeId} {z : List Cl} (h : zeroT P t = some z) : z.flatMap clV = [] := by
  have h1 := zeroT_lab h
  cases hz : z.flatMap clV with
  | nil => rfl
  | cons L l =>
    have : L ∈ z.flatMap clV := by rw [hz]; exact List.mem_cons_self
    obtain ⟨c, hc, hL⟩ := List.mem_flatMap.1 this
    have : L ∈ z.flatMap clLab := List.mem_flatMap.2 ⟨c, hc, clV_lab L hL⟩
    rw [h1] at this; simp at this

theorem cells_V (d : D1) : d.cells.flatMap clV = d1V d := by cases d <;> simp [D1.cells, d1V]

theorem buildC_V {t : TypeId} : ∀ (parts : List (Nat × Operand)) (z l : List Cl), buildC P t ev z parts = some l → ∀ L ∈ l.flatMap clV, L ∈ z.flatMap clV ∨ ∃ x ∈ parts, L ∈ dvV (ev x.2)
  | [], z, l, h => by simp [buildC] at h; subst h; exact fun L hL => .inl hL
  | (i, x) :: r, z, l, h => by
    simp only [buildC] at h
    split at h
    · rename_i d hd
      have splV : ∀ (l' l : List Cl) (off : Nat), ∀ L ∈ (spl l off l').flatMap clV, L ∈ l.flatMap clV ∨ L ∈ l'.flatMap clV := by
        intro l'
        induction l' with
        | nil => intro l off L hL; exact .inl hL
        | cons c l' ih =>
          intro l off L hL
          simp only [spl] at hL
          rcases ih _ _ L hL with h | h
          · obtain ⟨c', hc', hL'⟩ := List.mem_flatMap.1 h
            rcases List.mem_or_eq_of_mem_set hc' with h2 | h2
            · exact .inl (List.mem_flatMap.2 ⟨c', h2, hL'⟩)
            · subst h2; exact .inr (List.mem_flatMap.2 ⟨c', List.mem_cons_self, hL'⟩)
          · exact .inr (by simp only [List.flatMap_cons, List.mem_append]; exact .inr h)
      have step : ∀ off, buildC P t ev (spl z off d.cells) r = some l → ∀ L ∈ l.flatMap clV, L ∈ z.flatMap clV ∨ ∃ y ∈ (i, x) :: r, L ∈ dvV (ev y.2) := by
        intro off hb L hL
        rcases buildC_V r _ l hb L hL with h | ⟨y, hy, hL⟩
        · rcases splV _ _ _ L h with h | h
          · exact .inl h
          · refine .inr ⟨(i, x), List.mem_cons_self, ?_⟩
            simp only [hd, dvV]; rw [← cells_V]; exact h
        · exact .inr ⟨y, List.mem_cons_of_mem _ hy, hL⟩
      split at h
      · split at h
        · split at h
          · split at h
            · exact step _ h
            · cases h
          · cases h
        · cases h
      · split at h
        · split at h
          · exact step _ h
          · cases h
        · cases h
      · cases h
    · cases h

theorem buildC_congr {ev' : Operand → DV} {t : TypeId} : ∀ (parts : List (Nat × Operand)) (z : List Cl), (∀ x ∈ parts, ev' x.2 = ev x.2) → buildC P t ev' z parts = buildC P t ev z parts
  | [], z, _ => rfl
  | (i, x) :: r, z, h => by
    have hx : ev' x = ev x := h (i, x) List.mem_cons_self
    have ih : ∀ z, buildC P t ev' z r = buildC P t ev z r := fun z => buildC_congr r z fun y hy => h y (List.mem_cons_of_mem _ hy)
    simp only [buildC, hx, ih]

theorem partsPV_congr {ev' : Operand → DV} {ob' : Nat → Option AO} {s : Nat} : ∀ (parts : List (Nat × Operand)) (i : Nat) (ls : List (List PV)) (u : Upd) (labs : List Nat), partsPV ob ev s i parts = some (ls, u, labs) →
    (∀ x ∈ parts, ev' x.2 = ev x.2) → (∀ L ∈ labs, ob' L = ob L) → partsPV ob' ev' s i parts = some (ls, u, labs)
  | [], i, ls, u, labs, h, _, _ => by simpa [partsPV] using h
  | (j, x) :: r, i, ls, u, labs, h, he, hob => by
    have hx : ev' x = ev x := he (j, x) List.mem_cons_self
    simp only [partsPV] at h ⊢
    rw [hx]
    split at h
    · rename_i hij
      split at h
      · rename_i d hd
        split at h
        · rename_i l u1 ls' us labs' h1 h2
          split at h
          · rename_i hlen
            simp only [Option.some.injEq, Prod.mk.injEq] at h
            obtain ⟨rfl, rfl, rfl⟩ := h
            have e1 : frzL0 ob' d.cells = some (l, u1) := by
              rw [← h1]
              refine frzL0_congr fun L hL => hob L (List.mem_append.2 (.inl ?_))
              cases d <;> simpa [D1.cells, d1Lab] using hL
            have e2 := partsPV_congr r (i + 1) ls' us labs' h2 (fun y hy => he y (List.mem_cons_of_mem _ hy)) (fun L hL => hob L (List.mem_append.2 (.inr hL)))
            simp only [e1, e2, hlen]
          · cases h
        · cases h
      · cases h
    · cases h
theorem partsPV_keys {s : Nat} : ∀ (parts : List (Nat × Operand)) (i : Nat) (ls : List (List PV)) (u : Upd) (labs : List Nat), partsPV ob ev s i parts = some (ls, u, labs) → ∀ x ∈ u, x.1 ∈ labs ∧ aoV x.2 = []
  | [], i, ls, u, labs, h => by simp [partsPV] at h; rw [h.2.1]; intro x hx; simp at hx
  | (j, x) :: r, i, ls, u, labs, h => by
    simp only [partsPV] at h
    split at h
    · split at h
      · rename_i d hd
        split at h
        · rename_i l u1 ls' us labs' h1 h2
          split at h
          · simp only [Option.some.injEq, Prod.mk.injEq] at h
            obtain ⟨rfl, rfl, rfl⟩ := h
            intro y hy
            rcases List.mem_append.1 hy with hy | hy
            · obtain ⟨h3, h4⟩ := frzL0_keys h1 y hy
              refine ⟨List.mem_append.2 (.inl ?_), h4⟩
              cases d <;> simpa [D1.cells, d1Lab] using h3
            · obtain ⟨h3, h4⟩ := partsPV_keys r _ _ _ _ h2 y hy
              exact ⟨List.mem_append.2 (.inr h3), h4⟩
          · cases h
        · cases h
      · cases h
    · cases h

theorem ok_build {t : TypeId} {parts : Array (Nat × Operand)} {z l : List Cl} (hop : o.op = .build t parts) (hf : fieldsOk P t = true) (hz : zeroT P t = some z) (hl : buildC P t ev z parts.toList = some l) :
    ActOk P Γ o ev ob (.val [] (.one (.agg l)) [] []) := by
  have hm : ∀ x ∈ parts.toList, x.2 ∈ o.op.operands.toList := fun x hx => by
    simp only [hop, Op.operands]
    exact List.mem_map.2 ⟨x, hx, rfl⟩
  refine ActOk.pure (fun L hL => ?_) fun ev' ob' he _ => ?_
  · rcases buildC_V _ _ _ hl L hL with h | ⟨x, hx, h⟩
    · rw [zeroT_V hz] at h; simp at h
    · exact .inl (.inl ⟨x.2, hm x hx, h⟩)
  · simp only [act, aBd, hop, hf, hz, buildC_congr parts.toList z (fun x hx => he x.2 (hm x hx)), hl]

theorem rd_mem {l : List Nat} {L : Nat} (h : L ∈ l) : (L, true) ∈ wr l := List.mem_map.2 ⟨L, h, rfl⟩

theorem ok_buildSlice {t : TypeId} {n : Nat} {parts : Array (Nat × Operand)} (hop : o.op = .buildSlice t n parts) (hA : act P Γ o ev ob = A) (hs : A.safe) : ActOk P Γ o ev ob A := by
  have hm : ∀ x ∈ parts.toList, x.2 ∈ o.op.operands.toList := fun x hx => by
    simp only [hop, Op.operands]
    exact List.mem_map.2 ⟨x, hx, rfl⟩
  simp only [act, aBs, hop] at hA
  split at hA
  · rename_i e hu
    split at hA
    · rename_i ie hie
      split at hA
      · rename_i ls u labs hp
        split at hA
        · rename_i z dst hb hz hd
          split at hA
          · rename_i hn
            subst hA
            refine ⟨fun x hx => ?_, .inl rfl, fun x hx L hL => ?_, fun d' hd' L hL => ?_, fun ev' ob' he hob => ?_⟩
            · simp only [OpAct.u, List.mem_cons] at hx
              simp only [OpAct.fp, List.mem_append]
              rcases hx with rfl | hx
              · exact .inr (by simp)
              · exact .inl (rd_mem (partsPV_keys _ _ _ _ _ hp x hx).1)
            · simp only [OpAct.u, List.mem_cons] at hx
              rcases hx with rfl | hx
              · simp [aoV] at hL
              · rw [(partsPV_keys _ _ _ _ _ hp x hx).2] at hL; simp at hL
            · simp only [OpAct.gives] at hd'; subst hd'
              simp only [dvV, d1V, clV, List.mem_singleton] at hL
              subst hL
              exact .inr (by simp [OpAct.fp])
            · have e1 := partsPV_congr (ev' := ev') (ob' := ob') _ _ _ _ _ hp (fun x hx => he x.2 (hm x hx)) (fun L hL => hob (L, true) (List.mem_append.2 (.inl (rd_mem hL))))
              have e2 := hob (dst, true) (List.mem_append.2 (.inr (by simp)))
              simp only at e2
              simp only [act, aBs, hop, hu, hie, e1, hb, hz, hd, e2, hn]
          · subst hA; exact hs.elim
        · subst hA; exact hs.elim
      · subst hA; exact hs.elim
    · subst hA; exact hs.elim
  · subst hA; exact hs.elim

theorem rd_men {L : Nat} {ao : AO} {w : Bool} {d : D1} (hL : ob L = some ao) (h : ∀ M ∈ d1V d, M ∈ aoV ao) : ∀ M ∈ dvV (.one d), Men o ev ob [(L, w)] M ∨ (M, true) ∈ [(L, w)] :=
  fun M hM => .inl (.inr ⟨(L, w), by simp, ao, hL, h M hM⟩)

theorem ok_load {t : TypeId} {x : Operand} (hop : o.op = .load t x) (hA : act P Γ o ev ob = A) (hs : A.safe) : ActOk P Γ o ev ob A := by
  have hm : x ∈ o.op.operands.toList := by simp [hop, Op.operands]
  simp only [act, aLd, hop] at hA
  split at hA
  · rename_i ag n hag hn
    split at hA
    · rename_i L off hx
      split at hA
      · rename_i ty cells hL
        split at hA
        · rename_i d hr
          subst hA
          refine ActOk.pure (rd_men hL (rdCl_V hr)) fun ev' ob' he hob => ?_
          have e := hob (L, false) (by simp); simp only at e
          simp only [act, aLd, hop, hag, hn, he x hm, hx, e, hL, hr]
        · subst hA; exact hs.elim
      · rename_i cells hL
        split at hA
        · rename_i d hr
          subst hA
          refine ActOk.pure (fun M hM => ?_) fun ev' ob' he hob => ?_
          · simp only [dvV] at hM; rw [rdCl_pV hr] at hM; simp at hM
          have e := hob (L, false) (by simp); simp only at e
          simp only [act, aLd, hop, hag, hn, he x hm, hx, e, hL, hr]
        · subst hA; exact hs.elim
      · subst hA; exact hs.elim
    · rename_i cells off hx
      split at hA
      · rename_i d hr
        subst hA
        refine ActOk.pure (fun M hM => ?_) fun ev' ob' he hob => ?_
        · simp only [dvV] at hM; rw [rdCl_pV hr] at hM; simp at hM
        simp only [act, aLd, hop, hag, hn, he x hm, hx, hr]
      · subst hA; exact hs.elim
    · rename_i L s i k hx
      split at hA
      · rename_i e s' b len get hL
        split at hA
        · rename_i d hss hr
          subst hA
          refine ActOk.pchk (fun M hM => ?_) fun ev' ob' he hob => ?_
          · simp only [dvV] at hM; rw [rdCl_pV hr] at hM; simp at hM
          have e := hob (L, false) (by simp); simp only at e
          simp only [act, aLd, hop, hag, hn, he x hm, hx, e, hL, hss, hr]
        · subst hA; exact hs.elim
      · rename_i s' len get hL
        split at hA
        · rename_i d hss hr
          subst hA
          refine ActOk.pchk (fun M hM => ?_) fun ev' ob' he hob => ?_
          · simp only [dvV] at hM; rw [rdCl_pV hr] at hM; simp at hM
          have e := hob (L, false) (by simp); simp only at e
          simp only [act, aLd, hop, hag, hn, he x hm, hx, e, hL, hss, hr]
        · subst hA; exact hs.elim
      · rename_i hL0
        split at hA
        · rename_i hss
          split at hA
          · rename_i dst hdst
            split at hA
            · rename_i hfresh hL
              subst hA
              refine ⟨fun x hx => ?_, .inl rfl, fun x hx L hL => ?_, fun d' hd' L hL => ?_, fun ev' ob' he hob => ?_⟩
              · simp only [OpAct.u, List.mem_cons, List.not_mem_nil, or_false] at hx
                rcases hx with rfl | rfl <;> simp [OpAct.fp]
              · simp only [OpAct.u, List.mem_cons, List.not_mem_nil, or_false] at hx
                rcases hx with rfl | rfl <;> simp [aoV] at hL
              · simp only [OpAct.gives] at hd'; subst hd'
                simp only [dvV, d1V, clV, List.mem_singleton] at hL
                subst hL
                exact .inr (by simp [OpAct.fp])
              · have e1 := hob (L, true) (by simp [OpAct.fp])
                have e2 := hob (dst, true) (by simp [OpAct.fp])
                simp only at e1 e2
                simp only [act, aLd, hop, hag, hn, he x hm, hx, e1, e2, hL, hss, hdst, hfresh]
            · subst hA; exact hs.elim
          · subst hA; exact hs.elim
        · subst hA; exact hs.elim
      · subst hA; exact hs.elim
    · subst hA; exact hs.elim
  · subst hA; exact hs.elim

theorem spl_V : ∀ (l' l : List Cl) (off : Nat), ∀ L ∈ (spl l off l').flatMap clV, L ∈ l.flatMap clV ∨ L ∈ l'.flatMap clV := by
  intro l'
  induction l' with
  | nil => intro l off L hL; exact .inl hL
  | cons c l' ih =>
    intro l off L hL
    simp only [spl] at hL
    rcases ih _ _ L hL with h | h
    · obtain ⟨c', hc', hL'⟩ := List.mem_flatMap.1 h
      rcases List.mem_or_eq_of_mem_set hc' with h2 | h2
      · exact .inl (List.mem_flatMap.2 ⟨c', h2, hL'⟩)
      · subst h2; exact .inr (List.mem_flatMap.2 ⟨c', List.mem_cons_self, hL'⟩)
    · exact .inr (by simp only [List.flatMap_cons, List.mem_append]; exact .inr h)

theorem ok_store {t : TypeId} {x y : Operand} (hop : o.op = .store t x y) (hA : act P Γ o ev ob = A) (hs : A.safe) : ActOk P Γ o ev ob A := by
  have hx : x ∈ o.op.operands.toList := by simp [hop, Op.operands]
  have hy : y ∈ o.op.operands.toList := by simp [hop, Op.operands]
  simp only [act, aSt, hop] at hA
  split at hA
  · rename_i n L off d hn hex hey
    split at hA
    · rename_i ty cells hL
      split at hA
      · rename_i hb
        subst hA
        refine ⟨fun z hz => ?_, .inl rfl, fun z hz M hM => ?_, fun d' hd' M hM => ?_, fun ev' ob' he hob => ?_⟩
        · simp only [OpAct.u, List.mem_singleton] at hz; subst hz; simp [OpAct.fp]
        · simp only [OpAct.u, List.mem_singleton] at hz; subst hz
          simp only [aoV] at hM
          rcases spl_V _ _ _ M hM with h | h
          · exact .inr ⟨(L, true), by simp [OpAct.fp], _, hL, h⟩
          · refine .inl ⟨y, hy, ?_⟩
            rw [hey]; simp only [dvV]; rw [← cells_V]; exact h
        · simp only [OpAct.gives] at hd'; subst hd'; simp [dvV, d1V, clV] at hM
        · have e := hob (L, true) (by simp [OpAct.fp]); simp only at e
          simp only [act, aSt, hop, hn, he x hx, he y hy, hex, hey, e, hL, hb]
      · subst hA; exact hs.elim
    · subst hA; exact hs.elim
  · rename_i n L s i k d hn hex hey
    split at hA
    · rename_i e s' b len get hL
      split at hA
      · rename_i l hl
        split at hA
        · rename_i hb
          subst hA
          refine ⟨fun z hz => ?_, .inl rfl, fun z hz M hM => ?_, fun d' hd' M hM => ?_, fun ev' ob' he hob => ?_⟩
          · simp only [OpAct.u, List.mem_singleton] at hz; subst hz; simp [OpAct.fp]
          · simp only [OpAct.u, List.mem_singleton] at hz; subst hz; simp [aoV] at hM
          · simp only [OpAct.gives] at hd'; subst hd'; simp [dvV, d1V, clV] at hM
          · have e := hob (L, true) (by simp [OpAct.fp]); simp only at e
            simp only [act, aSt, hop, hn, he x hx, he y hy, hex, hey, e, hL, hl, hb]
        · subst hA; exact hs.elim
      · subst hA; exact hs.elim
    · rename_i te bb e s' by' len ln get hL
      split at hA
      · rename_i M'
        split at hA
        · rename_i e2 s2 b2 mm get2 hM'
          split at hA
          · rename_i hb
            split at hA
            · rename_i hq
              subst hA
              refine ⟨fun z hz => ?_, .inl rfl, fun z hz M hM => ?_, fun d' hd' M hM => ?_, fun ev' ob' he hob => ?_⟩
              · simp only [OpAct.u, List.mem_cons, List.not_mem_nil, or_false] at hz
                rcases hz with rfl | rfl <;> simp [OpAct.fp]
              · simp only [OpAct.u, List.mem_cons, List.not_mem_nil, or_false] at hz
                rcases hz with rfl | rfl <;> simp [aoV] at hM
              · simp only [OpAct.gives] at hd'; subst hd'; simp [dvV, d1V, clV] at hM
              · have e := hob (L, true) (by simp [OpAct.fp]); simp only at e
                have e2 := hob (M', true) (by simp [OpAct.fp]); simp only at e2
                simp only [act, aSt, hop, hn, he x hx, he y hy, hex, hey, e, hL, e2, hM', hb]
                rw [if_pos hq]
            · subst hA; exact hs.elim
          · subst hA; exact hs.elim
        · subst hA; exact hs.elim
      · subst hA; exact hs.elim
    · subst hA; exact hs.elim
  · subst hA; exact hs.elim

theorem ok_nilCheck {x : Operand} (hop : o.op = .nilCheck x) (hA : act P Γ o ev ob = A) (hs : A.safe) : ActOk P Γ o ev ob A := by
  have hx : x ∈ o.op.operands.toList := by simp [hop, Op.operands]
  simp only [act, aNc, hop] at hA
  split at hA
  · rename_i L off h; subst hA
    exact ActOk.pure (dv_men hx fun L hL => by rw [h]; exact hL) fun ev' ob' he _ => by simp only [act, aNc, hop, he x hx, h]
  · rename_i L off h; subst hA
    exact ActOk.pure (dv_men hx fun L hL => by rw [h]; exact hL) fun ev' ob' he _ => by simp only [act, aNc, hop, he x hx, h]
  · rename_i L s i k h; subst hA
    exact ActOk.pure (dv_men hx fun L hL => by rw [h]; exact hL) fun ev' ob' he _ => by simp only [act, aNc, hop, he x hx, h]
  · subst hA; exact hs.elim

theorem ok_intOp {op : BinOp} {k : IntKind} {p q : Int} (hs : (intOp op k p q).safe)
    (hc : ∀ ev' ob', (∀ x ∈ o.op.operands.toList, ev' x = ev x) → act P Γ o ev' ob' = intOp op k p q) : ActOk P Γ o ev ob (intOp op k p q) := by
  cases op <;> first
    | exact hs.elim
    | exact ActOk.pure (no_men _) fun ev' ob' he _ => hc ev' ob' he
    | exact ActOk.pchk (no_men _) fun ev' ob' he _ => hc ev' ob' he

theorem ok_binOp {op : BinOp} {t t' : TypeId} {x y : Operand} (hop : o.op = .binOp op t x y t') (hA : act P Γ o ev ob = A) (hs : A.safe) : ActOk P Γ o ev ob A := by
  have hx : x ∈ o.op.operands.toList := by simp [hop, Op.operands]
  have hy : y ∈ o.op.operands.toList := by simp [hop, Op.operands]
  simp only [act, aBn, hop] at hA
  split at hA
  · rename_i k p k' q hex hey
    split at hA
    · rename_i hk
      subst hA
      exact ok_intOp hs fun ev' ob' he => by simp only [act, aBn, hop, he x hx, he y hy, hex, hey, hk, if_true]
    · rename_i hk
      subst hA
      have hc : ∀ ev' ob', (∀ x ∈ o.op.operands.toList, ev' x = ev x) → act P Γ o ev' ob' = shfOp op k p q := fun ev' ob' he => by simp only [act, aBn, hop, he x hx, he y hy, hex, hey, hk, if_false]
      cases op <;> first
        | exact hs.elim
        | exact ActOk.pchk (no_men _) fun ev' ob' he _ => hc ev' ob' he
  · rename_i p q hex hey
    split at hA
    · rename_i hu; subst hA
      exact ActOk.pure (no_men _) fun ev' ob' he _ => by simp only [act, aBn, hop, he x hx, he y hy, hex, hey, hu]
    · rename_i hu; subst hA
      exact ActOk.pure (no_men _) fun ev' ob' he _ => by simp only [act, aBn, hop, he x hx, he y hy, hex, hey, hu]
    · subst hA; exact hs.elim
  · rename_i cs ds hex hey
    have hc : ∀ ev' ob', (∀ x ∈ o.op.operands.toList, ev' x = ev x) → act P Γ o ev' ob' = A := fun ev' ob' he => by
      simp only [act, aBn, hop, he x hx, he y hy, hex, hey]; exact hA
    unfold eqAct at hA
    split at hA
    · split at hA
      · subst hA; exact ActOk.pure (no_men _) fun ev' ob' he _ => hc ev' ob' he
      · subst hA; exact ActOk.pure (no_men _) fun ev' ob' he _ => hc ev' ob' he
      · subst hA; exact hs.elim
    · subst hA; exact hs.elim
  · subst hA; exact hs.elim

theorem ok_index {t : TypeId} {x y : Operand} (hop : o.op = .index t x y) (hA : act P Γ o ev ob = A) (hs : A.safe) : ActOk P Γ o ev ob A := by
  have hx : x ∈ o.op.operands.toList := by simp [hop, Op.operands]
  have hy : y ∈ o.op.operands.toList := by simp [hop, Op.operands]
  have hc : ∀ ev' ob', (∀ x ∈ o.op.operands.toList, ev' x = ev x) → act P Γ o ev' ob' = A := fun ev' ob' he => by
    rw [← hA]; simp only [act, hop, he x hx, he y hy]
  simp only [act, hop, indexAct] at hA
  split at hA
  · split at hA
    · rename_i cs k j _ _ hex hey
      split at hA
      · rename_i d _ hr
        subst hA
        refine ActOk.pure (dv_men hx fun L hL => ?_) fun ev' ob' he _ => hc ev' ob' he
        rw [hex]; exact rdCl_V hr L hL
      · subst hA; exact hs.elim
    · subst hA; exact hs.elim
  · subst hA; exact hs.elim

theorem ok_field {t : TypeId} {x : Operand} {f : Nat} (hop : o.op = .field t x f) (hA : act P Γ o ev ob = A) (hs : A.safe) : ActOk P Γ o ev ob A := by
  have hx : x ∈ o.op.operands.toList := by simp [hop, Op.operands]
  have hc : ∀ ev' ob', (∀ x ∈ o.op.operands.toList, ev' x = ev x) → act P Γ o ev' ob' = A := fun ev' ob' he => by
    rw [← hA]; simp only [act, hop, he x hx]
  simp only [act, hop, fieldAct] at hA
  split at hA
  · split at hA
    · split at hA
      · rename_i hex
        split at hA
        · rename_i d hr
          subst hA
          refine ActOk.pure (dv_men hx fun L hL => ?_) fun ev' ob' he _ => hc ev' ob' he
          rw [hex]; exact rdCl_V hr L hL
        · subst hA; exact hs.elim
      · subst hA; exact hs.elim
    · subst hA; exact hs.elim
  · subst hA; exact hs.elim

theorem ok_slice {t : TypeId} {x : Operand} {lo hi : Option Operand} (hop : o.op = .slice t x lo hi none) (hA : act P Γ o ev ob = A) (hs : A.safe) : ActOk P Γ o ev ob A := by
  have hx : x ∈ o.op.operands.toList := by simp [hop, Op.operands]
  have hlo : ∀ y, lo = some y → y ∈ o.op.operands.toList := fun y e => by subst e; simp [hop, Op.operands]
  have hhi : ∀ y, hi = some y → y ∈ o.op.operands.toList := fun y e => by subst e; simp [hop, Op.operands]
  have hc : ∀ ev' ob', (∀ x ∈ o.op.operands.toList, ev' x = ev x) → act P Γ o ev' ob' = A := fun ev' ob' he => by
    have e1 : bndO ev' lo = bndO ev lo := by
      cases lo with
      | none => rfl
      | some y => simp only [bndO, he y (hlo y rfl)]
    have e2 : bndO ev' hi = bndO ev hi := by
      cases hi with
      | none => rfl
      | some y => simp only [bndO, he y (hhi y rfl)]
    rw [← hA]; simp only [act, hop, he x hx, e1, e2]
  simp only [act, hop, sliceAct] at hA
  split at hA
  · split at hA
    · split at hA
      · subst hA
        exact ActOk.pchk (fun L hL => by simp [dvV, d1V, clV] at hL) fun ev' ob' he _ => hc ev' ob' he
      · subst hA; exact hs.elim
    · subst hA; exact hs.elim
  · subst hA; exact hs.elim

theorem d1V_lab {d : D1} : ∀ L, L ∈ d1V d → L ∈ d1Lab d := by
  intro L hL
  cases d with
  | c y => exact clV_lab L hL
  | agg cs =>
    obtain ⟨c, hc, hL⟩ := List.mem_flatMap.1 hL
    exact List.mem_flatMap.2 ⟨c, hc, clV_lab L hL⟩

theorem found_inv {q : MQ} {kd : DV} {ok : Bool} {F : List Int → Option (List Int)} {fin : DV → OpAct} (hA : found q kd ok F fin = A) (hs : A.safe) : ∃ d, (∀ M ∈ dvV d, False) ∧ fin d = A := by
  unfold found at hA
  split at hA
  · split at hA
    · rename_i d hdv
      have hV : ∀ M, M ∈ d1V d → False := fun M hM => by have := d1V_lab M hM; rw [valD_lab hdv] at this; simp at this
      cases ok with
      | true =>
        refine ⟨_, fun M hM => ?_, hA⟩
        simp only [dvV, List.flatMap_cons, List.flatMap_nil, List.append_nil, List.mem_append] at hM
        rcases hM with hM | hM
        · exact hV M hM
        · simp [d1V, clV] at hM
      | false => exact ⟨.one d, fun M hM => hV M hM, hA⟩
    · subst hA; exact hs.elim
  · subst hA; exact hs.elim

theorem ok_lookup {t : TypeId} {x y : Operand} {k : Bool} (hop : o.op = .lookup t x y k) (hA : act P Γ o ev ob = A) (hs : A.safe) : ActOk P Γ o ev ob A := by
  have hx : x ∈ o.op.operands.toList := by simp [hop, Op.operands]
  have hy : y ∈ o.op.operands.toList := by simp [hop, Op.operands]
  have hc1 : ∀ ev' ob', (∀ x ∈ o.op.operands.toList, ev' x = ev x) → act P Γ o ev' ob' = lookMo P t (ev x) (ev y) k ob' := fun ev' ob' he => by simp only [act, hop, he x hx, he y hy]
  rw [hc1 ev ob (fun _ _ => rfl)] at hA
  unfold lookMo at hA hc1
  split at hA
  · rename_i kt vt L hu hex
    split at hA
    · rename_i q kt' vt' q' n F hE hL
      split at hA
      · rename_i hcond
        obtain ⟨d, hd, e⟩ := found_inv hA hs
        subst e
        refine ActOk.pure (fun M hM => (hd M hM).elim) fun ev' ob' he hob => ?_
        rw [hc1 ev' ob' he]
        have := hob (L, false) (by simp); simp only at this
        simp only [hu, hex, this, hL, hE, if_pos hcond]
        exact hA
      · subst hA; exact hs.elim
    · subst hA; exact hs.elim
  · subst hA; exact hs.elim

theorem ok_mapUpdate {t : TypeId} {x y z : Operand} (hop : o.op = .mapUpdate t x y z) (hA : act P Γ o ev ob = A) (hs : A.safe) : ActOk P Γ o ev ob A := by
  have hx : x ∈ o.op.operands.toList := by simp [hop, Op.operands]
  have hy : y ∈ o.op.operands.toList := by simp [hop, Op.operands]
  have hz : z ∈ o.op.operands.toList := by simp [hop, Op.operands]
  have hc1 : ∀ ev' ob', (∀ x ∈ o.op.operands.toList, ev' x = ev x) → act P Γ o ev' ob' = updMo P t (ev x) (ev y) (ev z) ob' := fun ev' ob' he => by simp only [act, hop, he x hx, he y hy, he z hz]
  rw [hc1 ev ob (fun _ _ => rfl)] at hA
  unfold updMo at hA hc1
  split at hA
  · rename_i kt vt L hu hex
    split at hA
    · rename_i q kt' vt' q' n F hE hL
      split at hA
      · rename_i c dv hck hez
        split at hA
        · rename_i l hl
          split at hA
          · rename_i hcond
            have hcc : ∀ ev' ob', (∀ x ∈ o.op.operands.toList, ev' x = ev x) → (∀ y ∈ [(L, true)], ob' y.1 = ob y.1) → act P Γ o ev' ob' = A := fun ev' ob' he hob => by
              rw [hc1 ev' ob' he]
              have := hob (L, true) (by simp); simp only at this
              simp only [hu, hex, this, hL, hE, hck, hez, hl, if_pos hcond]
              exact hA
            subst hA
            refine ⟨fun x hx => ?_, .inl rfl, fun x hx M hM => ?_, fun d' hd' M hM => ?_, fun ev' ob' he hob => hcc ev' ob' he hob⟩
            · simp only [OpAct.u, List.mem_singleton] at hx; subst hx; simp [OpAct.fp]
            · simp only [OpAct.u, List.mem_singleton] at hx; subst hx; simp [aoV] at hM
            · simp only [OpAct.gives] at hd'; subst hd'; simp [dvV, d1V, clV] at hM
          · subst hA; exact hs.elim
        · subst hA; exact hs.elim
      · subst hA; exact hs.elim
    · subst hA; exact hs.elim
  · subst hA; exact hs.elim

theorem ok_makeMap {t : TypeId} (hop : o.op = .makeMap t none) (hA : act P Γ o ev ob = A) (hs : A.safe) : ActOk P Γ o ev ob A := by
  cases hv : vvOn Γ o.dst with
  | true =>
    simp only [act, aMm, hop, hv] at hA
    split at hA
    · rename_i kt vt hu
      split at hA
      · rename_i q hE
        exact ok_putB (ao := .mo kt vt q 0 (fun _ => none)) (d := fun t => .cl (.mo t)) (fun L hL => by simp [aoV] at hL) (fun t L hL => by simpa [dvV, d1V, clV] using hL) (fun ev' ob' _ => by simp only [act, aMm, hop, hv, hu, hE]) hA hs
      · subst hA; exact hs.elim
    · subst hA; exact hs.elim
  | false =>
    simp only [act, aMm, hop, hv] at hA
    subst hA; exact hs.elim

theorem ok_unOp {op : UnOp} {t : TypeId} {x : Operand} (hop : o.op = .unOp op t x) (hA : act P Γ o ev ob = A) (hs : A.safe) : ActOk P Γ o ev ob A := by
  have hx : x ∈ o.op.operands.toList := by simp [hop, Op.operands]
  simp only [act, aUn, hop] at hA
  split at hA
  · rename_i h; subst hA
    exact ActOk.pure (no_men _) fun ev' ob' he _ => by simp only [act, aUn, hop, he x hx, h]
  · rename_i h; subst hA
    exact ActOk.pure (no_men _) fun ev' ob' he _ => by simp only [act, aUn, hop, he x hx, h]
  · subst hA; exact hs.elim

theorem ok_convert {t1 t2 : TypeId} {x : Operand} (hop : o.op = .convert t1 t2 x) (hA : act P Γ o ev ob = A) (hs : A.safe) : ActOk P Γ o ev ob A := by
  have hx : x ∈ o.op.operands.toList := by simp [hop, Op.operands]
  simp only [act, aCv, hop] at hA
  split at hA
  · rename_i h1 h2 h; subst hA
    exact ActOk.pure (no_men _) fun ev' ob' he _ => by simp only [act, aCv, hop, he x hx, h, h1, h2]
  · subst hA; exact hs.elim

theorem ok_fieldAddr {t : TypeId} {x : Operand} {f : Nat} (hop : o.op = .fieldAddr t x f) (hA : act P Γ o ev ob = A) (hs : A.safe) : ActOk P Γ o ev ob A := by
  have hx : x ∈ o.op.operands.toList := by simp [hop, Op.operands]
  simp only [act, aFa, hop] at hA
  split at hA
  · rename_i off hf
    split at hA
    · rename_i h; subst hA
      exact ActOk.pure (dv_men hx fun L hL => by rw [h]; exact hL) fun ev' ob' he _ => by simp only [act, aFa, hop, he x hx, h, hf]
    · rename_i h; subst hA
      exact ActOk.pure (dv_men hx fun L hL => by rw [h]; exact hL) fun ev' ob' he _ => by simp only [act, aFa, hop, he x hx, h, hf]
    · rename_i h; subst hA
      exact ActOk.pure (dv_men hx fun L hL => by rw [h]; exact hL) fun ev' ob' he _ => by simp only [act, aFa, hop, he x hx, h, hf]
    · subst hA; exact hs.elim
  · subst hA; exact hs.elim

theorem ok_indexAddr {t : TypeId} {x y : Operand} (hop : o.op = .indexAddr t x y) (hA : act P Γ o ev ob = A) (hs : A.safe) : ActOk P Γ o ev ob A := by
  have hx : x ∈ o.op.operands.toList := by simp [hop, Op.operands]
  have hy : y ∈ o.op.operands.toList := by simp [hop, Op.operands]
  simp only [act, aIa, hop] at hA
  split at hA
  · rename_i e hu
    split at hA
    · rename_i n k j hn hj
      split at hA
      · rename_i len s get hex
        split at hA
        · rename_i hs'; subst hA
          exact ActOk.pchk (no_men _) fun ev' ob' he _ => by simp only [act, aIa, hop, he x hx, he y hy, hex, hu, hn, hj, hs', if_true]
        · subst hA; exact hs.elim
      · rename_i L hex
        split at hA
        · rename_i e' s b len get hL
          split at hA
          · rename_i hs'; subst hA
            refine ActOk.pchk (fun M hM => .inl (.inl ⟨x, hx, ?_⟩)) fun ev' ob' he hob => ?_
            · rw [hex]; exact hM
            have e := hob (L, false) (by simp); simp only at e
            simp only [act, aIa, hop, he x hx, he y hy, hex, hu, hn, hj, e, hL, hs', if_true]
          · subst hA; exact hs.elim
        · rename_i s len get hL
          split at hA
          · rename_i hs'; subst hA
            refine ActOk.pchk (no_men _) fun ev' ob' he hob => ?_
            have e := hob (L, false) (by simp); simp only at e
            simp only [act, aIa, hop, he x hx, he y hy, hex, hu, hn, hj, e, hL, hs', if_true]
          · subst hA; exact hs.elim
        · rename_i hL
          split at hA
          · rename_i hs'; subst hA
            refine ActOk.pchk (fun M hM => .inl (.inl ⟨x, hx, ?_⟩)) fun ev' ob' he hob => ?_
            · rw [hex]; exact hM
            have e := hob (L, false) (by simp); simp only at e
            simp only [act, aIa, hop, he x hx, he y hy, hex, hu, hn, hj, e, hL, hs', if_true]
          · subst hA; exact hs.elim
        · rename_i hL
          split at hA
          · rename_i hs'; subst hA
            refine ActOk.pchk (fun M hM => .inl (.inl ⟨x, hx, ?_⟩)) fun ev' ob' he hob => ?_
            · rw [hex]; exact hM
            have e := hob (L, false) (by simp); simp only at e
            simp only [act, aIa, hop, he x hx, he y hy, hex, hu, hn, hj, e, hL, hs', if_true]
          · subst hA; exact hs.elim
        · subst hA; exact hs.elim
      · subst hA; exact hs.elim
    · subst hA; exact hs.elim
  · rename_i m e hu
    have hc : ∀ ev' ob', (∀ x ∈ o.op.operands.toList, ev' x = ev x) → act P Γ o ev' ob' = A := fun ev' ob' he => by
      simp only [act, aIa, hop, hu, he x hx, he y hy]; exact hA
    unfold indexArr at hA
    split at hA
    · split at hA
      · split at hA
        · rename_i h; subst hA; exact ActOk.pure (dv_men hx fun L hL => by simp [dvV, d1V, clV] at hL) fun ev' ob' he _ => hc ev' ob' he
        · rename_i h; subst hA; exact ActOk.pure (no_men _) fun ev' ob' he _ => hc ev' ob' he
        · subst hA; exact hs.elim
      · subst hA; exact hs.elim
    · subst hA; exact hs.elim
  · subst hA; exact hs.elim

theorem ok_extract {x : Operand} {k : Nat} (hop : o.op = .extract x k) (hA : act P Γ o ev ob = A) (hs : A.safe) : ActOk P Γ o ev ob A := by
  have hx : x ∈ o.op.operands.toList := by simp [hop, Op.operands]
  simp only [act, aEx, hop] at hA
  split at hA
  · rename_i ds h
    split at hA
    · rename_i d hd; subst hA
      refine ActOk.pure (dv_men hx fun L hL => ?_) fun ev' ob' he _ => by simp only [act, aEx, hop, he x hx, h, hd]
      rw [h]; exact List.mem_flatMap.2 ⟨d, List.mem_of_getElem? hd, hL⟩
    · subst hA; exact hs.elim
  · subst hA; exact hs.elim

theorem call_ops {c : Callee} {args : Array Operand} {ts : Array TypeId} (hop : o.op = .call { callee := c, args, argTypes := ts }) : ∀ x ∈ args.toList, x ∈ o.op.operands.toList := by
  intro x hx
  simp only [hop, Op.operands]
  cases c <;> simp [Call.operands] <;> simp at hx <;> first | exact hx | exact .inr hx

theorem ok_mx {b : Builtin} {args : Array Operand} {ts : Array TypeId} (hb : b = .max ∨ b = .min) (hop : o.op = .call { callee := .builtin b, args, argTypes := ts }) (hA : act P Γ o ev ob = A) (hs : A.safe) : ActOk P Γ o ev ob A := by
  have hm := call_ops hop
  have hmap : ∀ ev' : Operand → DV, (∀ x ∈ o.op.operands.toList, ev' x = ev x) → args.toList.map ev' = args.toList.map ev := fun ev' he => List.map_congr_left fun x hx => he x (hm x hx)
  rcases hb with rfl | rfl <;> simp only [act, aMx, aMi, hop] at hA <;> split at hA
  · rename_i h; subst hA; exact ActOk.pure (no_men _) fun ev' ob' he _ => by simp only [act, aMx, aMi, hop, hmap ev' he, h]
  · subst hA; exact hs.elim
  · rename_i h; subst hA; exact ActOk.pure (no_men _) fun ev' ob' he _ => by simp only [act, aMx, aMi, hop, hmap ev' he, h]
  · subst hA; exact hs.elim

theorem ok_len {args : Array Operand} {ts : Array TypeId} (hop : o.op = .call { callee := .builtin .len, args, argTypes := ts }) (hA : act P Γ o ev ob = A) (hs : A.safe) : ActOk P Γ o ev ob A := by
  have hm := call_ops hop
  simp only [act, aLn, hop] at hA
  split at hA
  · rename_i x t hargs ht
    have hx : x ∈ o.op.operands.toList := hm x (by rw [hargs]; simp)
    split at hA
    · rename_i e hu
      split at hA
      · rename_i h; subst hA; exact ActOk.pure (no_men _) fun ev' ob' he _ => by simp only [act, aLn, hop, hargs, ht, hu, he x hx, h]
      · rename_i h; subst hA; exact ActOk.pure (no_men _) fun ev' ob' he _ => by simp only [act, aLn, hop, hargs, ht, hu, he x hx, h]
      · rename_i L h
        split at hA
        · rename_i hL; subst hA
          refine ActOk.pure (no_men _) fun ev' ob' he hob => ?_
          have e := hob (L, false) (by simp); simp only at e
          simp only [act, aLn, hop, hargs, ht, hu, he x hx, h, e, hL]
        · rename_i hL; subst hA
          refine ActOk.pure (no_men _) fun ev' ob' he hob => ?_
          have e := hob (L, false) (by simp); simp only at e
          simp only [act, aLn, hop, hargs, ht, hu, he x hx, h, e, hL]
        · rename_i hL; subst hA
          refine ActOk.pure (no_men _) fun ev' ob' he hob => ?_
          have e := hob (L, false) (by simp); simp only at e
          simp only [act, aLn, hop, hargs, ht, hu, he x hx, h, e, hL]
        · subst hA; exact hs.elim
      · subst hA; exact hs.elim
    · rename_i kt vt hu
      split at hA
      · rename_i L h
        split at hA
        · rename_i hL; subst hA
          refine ActOk.pure (no_men _) fun ev' ob' he hob => ?_
          have e := hob (L, false) (by simp); simp only at e
          simp only [act, aLn, hop, hargs, ht, hu, he x hx, h, e, hL]
        · subst hA; exact hs.elim
      · subst hA; exact hs.elim
    · subst hA; exact hs.elim
  · subst hA; exact hs.elim

theorem appSrc_congr {d : DV} {ob' : Nat → Option AO} {m sz : Nat} {new : Nat → List PV} {fps : List (Nat × Bool)} (h : appSrc d ob = some (m, sz, new, fps)) (hob : ∀ y ∈ fps, ob' y.1 = ob y.1) :
    appSrc d ob' = some (m, sz, new, fps) := by
  unfold appSrc at h ⊢
  split at h
  · exact h
  · rename_i M
    split at h
    · rename_i hM
      have h' := h
      simp only [Option.some.injEq, Prod.mk.injEq] at h
      have e := hob (M, false) (by rw [← h.2.2.2]; simp); simp only at e
      rw [e, hM]; exact h'
    · rename_i hM
      have h' := h
      simp only [Option.some.injEq, Prod.mk.injEq] at h
      have e := hob (M, false) (by rw [← h.2.2.2]; simp); simp only at e
      rw [e, hM]; exact h'
    · cases h
  · cases h

theorem ok_append {args : Array Operand} {ts : Array TypeId} (hop : o.op = .call { callee := .builtin .append, args, argTypes := ts }) (hA : act P Γ o ev ob = A) (hs : A.safe) : ActOk P Γ o ev ob A := by
  have hm := call_ops hop
  have hA0 := hA
  simp only [act, aAp, hop] at hA
  split at hA
  · rename_i s x t t' hargs ht
    have hsm : s ∈ o.op.operands.toList := hm s (by rw [hargs]; simp)
    have hx : x ∈ o.op.operands.toList := hm x (by rw [hargs]; simp)
    split at hA
    · rename_i e dst hu htt hd
      split at hA
      · rename_i ie z hie hz
        have hcut : ∀ (ev' : Operand → DV) (ob' : Nat → Option AO), act P Γ o ev' ob' = appAct e ie dst (ev' x) (ev' s) ob' := fun ev' ob' => by
          simp only [act, aAp, hop, hargs, ht, hu, htt, hd, hie, hz]
        unfold appAct at hA hcut
        split at hA
        · rename_i m sz new fps hsrc
          -- the source looks only at what fps names
          have src' : ∀ (ev' : Operand → DV) (ob' : Nat → Option AO), (∀ x ∈ o.op.operands.toList, ev' x = ev x) → (∀ y ∈ fps, ob' y.1 = ob y.1) →
              appSrc (ev' x) ob' = some (m, sz, new, fps) := by
            intro ev' ob' he hob
            rw [he x hx]
            exact appSrc_congr hsrc hob
          split at hA
          · rename_i L hes
            split at hA
            · rename_i e' s' b' n' get' hL
              split at hA
              · rename_i hif
                subst hA
                refine ⟨fun z hz => ?_, .inr ⟨L, rfl, by simp [OpAct.fp]⟩, fun z hz M hM => ?_, fun d' hd' M hM => ?_, fun ev' ob' he hob => ?_⟩
                · simp only [OpAct.u, List.mem_singleton] at hz; subst hz; simp [OpAct.fp]
                · simp only [OpAct.u, List.mem_singleton] at hz; subst hz; simp [aoV] at hM
                · simp only [OpAct.gives] at hd'; subst hd'
                  simp only [dvV, d1V, clV, List.mem_singleton] at hM; subst hM
                  exact .inr (by simp [OpAct.fp])
                · have e1 := src' ev' ob' he (fun y hy => hob y (List.mem_cons_of_mem _ hy))
                  have e2 := hob (L, true) (by simp [OpAct.fp]); simp only at e2
                  rw [hcut, e1]
                  simp only [he s hsm, he x hx, hes, e2, hL]
                  rw [if_pos hif]
              · subst hA; exact hs.elim
            · subst hA; exact hs.elim
          · rename_i hes
            split at hA
            · rename_i hn
              split at hA
              · rename_i hif
                subst hA
                refine ⟨fun z hz => ?_, .inl rfl, fun z hz M hM => ?_, fun d' hd' M hM => ?_, fun ev' ob' he hob => ?_⟩
                · simp only [OpAct.u, List.mem_singleton] at hz; subst hz; simp [OpAct.fp]
                · simp only [OpAct.u, List.mem_singleton] at hz; subst hz; simp [aoV] at hM
                · simp only [OpAct.gives] at hd'; subst hd'
                  simp only [dvV, d1V, clV, List.mem_singleton] at hM; subst hM
                  exact .inr (by simp [OpAct.fp])
                · have e1 := src' ev' ob' he (fun y hy => hob y (List.mem_cons_of_mem _ hy))
                  have e2 := hob (dst, true) (by simp [OpAct.fp]); simp only at e2
                  rw [hcut, e1]
                  simp only [he s hsm, hes, e2, hn]
                  rw [if_pos hif]
              · subst hA; exact hs.elim
            · subst hA; exact hs.elim
          · subst hA; exact hs.elim
        · subst hA; exact hs.elim
      · subst hA; exact hs.elim
    · subst hA; exact hs.elim
  · subst hA; exact hs.elim

theorem paD_V (x : PA) : d1V (paD x) = [] := by
  cases x with
  | one p => rfl
  | agg cs => exact pcells_V cs
theorem resD_V (rs : List PA) : dvV (resD rs) = [] := by
  have tup : ∀ l : List PA, dvV (.tup (l.map paD)) = [] := by
    intro l
    induction l with
    | nil => rfl
    | cons x l ih => simp only [List.map_cons, dvV, List.flatMap_cons, paD_V, List.nil_append] at ih ⊢; exact ih
  match rs with
  | [] => exact tup _
  | [x] => exact paD_V x
  | x :: y :: l => exact tup _

theorem ok_own {k : OwnK} {args : Array Operand} {c : Callee} {ts : Array TypeId} (hop : o.op = .call { callee := c, args, argTypes := ts })
    (hc : ∀ ev' ob', (∀ x ∈ o.op.operands.toList, ev' x = ev x) → act P Γ o ev' ob' = ownAct P Γ o k (args.toList.map ev') ob') (hA : ownAct P Γ o k (args.toList.map ev) ob = A) (hs : A.safe) : ActOk P Γ o ev ob A := by
  have hm := call_ops hop
  have hmap : ∀ ev' : Operand → DV, (∀ x ∈ o.op.operands.toList, ev' x = ev x) → args.toList.map ev' = args.toList.map ev := fun ev' he => List.map_congr_left fun x hx => he x (hm x hx)
  unfold ownAct at hA
  split at hA
  · subst hA; exact hs.elim
  · split at hA
    · rename_i L hf caps hargs
      split at hA
      · rename_i hL hag
        split at hA
        · rename_i hif
          subst hA
          refine ⟨fun z hz => ?_, .inl rfl, fun z hz M hM => ?_, fun d' hd' M hM => ?_, fun ev' ob' he hob => ?_⟩
          · simp only [OpAct.u, List.mem_singleton] at hz; subst hz; simp [OpAct.fp]
          · simp only [OpAct.u, List.mem_singleton] at hz; subst hz; simp [aoV] at hM
          · simp only [OpAct.gives] at hd'; subst hd'; simp [dvV] at hM
          · have e2 := hob (L, true) (by simp [OpAct.fp]); simp only at e2
            rw [hc ev' ob' he, hmap ev' he]
            simp only [ownAct, hargs, e2, hL, hag]
            rw [if_pos hif]
        · subst hA; exact hs.elim
      · subst hA; exact hs.elim
    · subst hA; exact hs.elim
  · split at hA
    · rename_i dst hargs hd
      split at hA
      · rename_i hn hi hz
        split at hA
        · rename_i hif
          subst hA
          refine ⟨fun z hz => ?_, .inl rfl, fun z hz M hM => ?_, fun d' hd' M hM => ?_, fun ev' ob' he hob => ?_⟩
          · simp only [OpAct.u, List.mem_singleton] at hz; subst hz; simp [OpAct.fp]
          · simp only [OpAct.u, List.mem_singleton] at hz; subst hz; simp [aoV] at hM
          · simp only [OpAct.gives] at hd'; subst hd'
            simp only [dvV, d1V, clV, List.mem_singleton] at hM; subst hM
            exact .inr (by simp [OpAct.fp])
          · have e2 := hob (dst, true) (by simp [OpAct.fp]); simp only at e2
            rw [hc ev' ob' he, hmap ev' he]
            simp only [ownAct, hargs, hd, e2, hn, hi, hz]
            rw [if_pos hif]
        · subst hA; exact hs.elim
      · subst hA; exact hs.elim
    · subst hA; exact hs.elim
  · split at hA
    · rename_i az u dst has hd
      split at hA
      · rename_i n get rs ie z hF hfresh hi hz
        split at hA
        · rename_i hif
          subst hA
          refine ⟨fun z hz => ?_, .inl rfl, fun z hz M hM => ?_, fun d' hd' M hM => ?_, fun ev' ob' he hob => ?_⟩
          · simp only [OpAct.u, List.mem_singleton] at hz; subst hz; simp [OpAct.fp]
          · simp only [OpAct.u, List.mem_singleton] at hz; subst hz; simp [aoV] at hM
          · simp only [OpAct.gives] at hd'; subst hd'
            cases rs with
            | nil =>
              simp only [dvV, d1V, clV, List.mem_singleton] at hM; subst hM
              exact .inr (by simp [OpAct.fp])
            | cons x l =>
              have hM2 : M = dst := by
                simp only [dvV, List.flatMap_cons, List.mem_append, d1V, clV, List.mem_singleton, List.mem_flatMap, List.mem_map] at hM
                rcases hM with hM | ⟨d1, ⟨v, _, rfl⟩, hM⟩
                · exact hM
                · simp [d1V, clV] at hM
              subst hM2
              exact .inr (by simp [OpAct.fp])
          · have hl : ∀ L ∈ (args.toList.map ev).flatMap (deepLab ob), ob' L = ob L := fun L hL => hob (L, false) (List.mem_cons_of_mem _ (List.mem_map.2 ⟨L, hL, rfl⟩))
            have e2 := hob (dst, true) (by simp [OpAct.fp]); simp only at e2
            have e3 : frzDs ob' (args.toList.map ev) = some (az, u) := (frzDs_congr hl).trans has
            have e4 : (args.toList.map ev).flatMap (deepLab ob') = (args.toList.map ev).flatMap (deepLab ob) := fmc fun d hd => deepLab_congr fun L hL => hl L (List.mem_flatMap.2 ⟨d, hd, hL⟩)
            rw [hc ev' ob' he, hmap ev' he]
            simp only [ownAct, hd, e2, hF, hfresh, hi, hz, e3, e4]
            rw [if_pos hif]
        · subst hA; exact hs.elim
      · subst hA; exact hs.elim
    · subst hA; exact hs.elim

theorem xcPut_V {sf : SlfS} {ob : Nat → Option AO} : ∀ {cells l : List Cl} {ys cs : List XC} {u : List (Nat × AO)} {ms : List Nat}, xcPut cells ys = some (l, u) → xcsOf sf ob cells = some (cs, ms) →
    u.map (·.1) = ms ∧ (∀ x ∈ u, aoV x.2 = []) ∧ ∀ L ∈ l.flatMap clV, L ∈ cells.flatMap clV
  | [], l, [], cs, u, ms, h, h2 => by
    simp only [xcPut, Option.some.injEq, Prod.mk.injEq] at h; obtain ⟨rfl, rfl⟩ := h
    simp only [xcsOf, Option.some.injEq, Prod.mk.injEq] at h2; rw [← h2.2]
    exact ⟨rfl, fun x hx => by simp at hx, fun L hL => hL⟩
  | [], l, _ :: _, cs, u, ms, h, h2 => by simp [xcPut] at h
  | c :: cells, l, [], cs, u, ms, h, h2 => by simp [xcPut] at h
  | c :: cells, l, y :: ys, cs, u, ms, h, h2 => by
    unfold xcPut at h
    split at h
    · rename_i e; simp at e
    · rename_i e1 e2
      simp only [List.cons.injEq] at e1 e2
      obtain ⟨rfl, rfl⟩ := e1; obtain ⟨rfl, rfl⟩ := e2
      split at h
      · rename_i hp
        simp only [Option.some.injEq, Prod.mk.injEq] at h; obtain ⟨rfl, rfl⟩ := h
        simp only [xcsOf] at h2
        split at h2
        · rename_i hc
          simp only [Option.some.injEq, Prod.mk.injEq] at h2; rw [← h2.2]
          obtain ⟨i1, i2, i3⟩ := xcPut_V hp hc
          exact ⟨i1, i2, fun L hL => by simp only [List.flatMap_cons, clV, List.nil_append] at hL ⊢; exact i3 L hL⟩
        · cases h2
      · cases h
    · rename_i e1 e2
      simp only [List.cons.injEq] at e1 e2
      obtain ⟨rfl, rfl⟩ := e1; obtain ⟨rfl, rfl⟩ := e2
      split at h
      · rename_i hp
        simp only [Option.some.injEq, Prod.mk.injEq] at h; obtain ⟨rfl, rfl⟩ := h
        simp only [xcsOf] at h2
        split at h2
        · rename_i hc
          split at h2
          · simp only [Option.some.injEq, Prod.mk.injEq] at h2; rw [← h2.2]
            obtain ⟨i1, i2, i3⟩ := xcPut_V hp hc
            refine ⟨by simp [i1], fun x hx => ?_, fun L hL => ?_⟩
            · rcases List.mem_cons.1 hx with e | hx
              · subst e; rfl
              · exact i2 x hx
            · simp only [List.flatMap_cons, List.mem_append] at hL ⊢
              exact hL.imp_right (i3 L)
          · cases h2
        · cases h2
      · cases h
    · rename_i e1 e2
      simp only [List.cons.injEq] at e1 e2
      obtain ⟨rfl, rfl⟩ := e1; obtain ⟨rfl, rfl⟩ := e2
      split at h
      · rename_i hp
        simp only [Option.some.injEq, Prod.mk.injEq] at h; obtain ⟨rfl, rfl⟩ := h
        simp only [xcsOf] at h2
        split at h2
        · rename_i hc
          split at h2
          · simp only [Option.some.injEq, Prod.mk.injEq] at h2; rw [← h2.2]
            obtain ⟨i1, i2, i3⟩ := xcPut_V hp hc
            refine ⟨by simp [i1], fun x hx => ?_, fun L hL => ?_⟩
            · rcases List.mem_cons.1 hx with e | hx
              · subst e; rfl
              · exact i2 x hx
            · simp only [List.flatMap_cons, List.mem_append] at hL ⊢
              exact hL.imp_right (i3 L)
          · cases h2
        · cases h2
      · cases h
    · rename_i e1 e2
      simp only [List.cons.injEq] at e1 e2
      obtain ⟨rfl, rfl⟩ := e1; obtain ⟨rfl, rfl⟩ := e2
      split at h
      · rename_i hp
        simp only [Option.some.injEq, Prod.mk.injEq] at h; obtain ⟨rfl, rfl⟩ := h
        simp only [xcsOf] at h2
        split at h2
        · rename_i hc
          split at h2
          · simp only [Option.some.injEq, Prod.mk.injEq] at h2; rw [← h2.2]
            obtain ⟨i1, i2, i3⟩ := xcPut_V hp hc
            exact ⟨i1, i2, fun L hL => by simp only [List.flatMap_cons, List.mem_append] at hL ⊢; exact hL.imp_right (i3 L)⟩
          · cases h2
        · cases h2
      · cases h
    · cases h
theorem aPut_V {sf : SlfS} {ob : Nat → Option AO} {d : DV} {x y : XA} {u : List (Nat × AO)} {ls ms : List Nat} (h : aPut ob d y = some u) (h2 : xaOf sf ob d = some (x, ls, ms)) :
    u.map (·.1) = ls ∧ ∀ x ∈ u, ∀ L ∈ aoV x.2, ∃ o', ob x.1 = some o' ∧ L ∈ aoV o' := by
  have data : xdOf ob d = some (x, ls, ms) → ls = [] := by
    intro h
    unfold xdOf at h
    split at h
    · simp only [Option.some.injEq, Prod.mk.injEq] at h; exact h.2.1.symm
    · cases h
  unfold aPut at h
  split at h
  · rename_i L
    split at h
    · rename_i ty' cells hL
      rw [xaOf_ptr, hL] at h2
      dsimp only at h2
      split at h2
      · rename_i cs ms' hc
        simp only [Option.some.injEq, Prod.mk.injEq] at h2; obtain ⟨rfl, rfl, rfl⟩ := h2
        split at h
        · split at h
          · rename_i l u' hty hp
            simp only [Option.some.injEq] at h; subst h
            obtain ⟨i1, i2, i3⟩ := xcPut_V hp hc
            refine ⟨by simp [i1], fun x hx K hK => ?_⟩
            rcases List.mem_cons.1 hx with e | hx
            · subst e; exact ⟨_, hL, i3 K hK⟩
            · rw [i2 x hx] at hK; simp at hK
          · cases h
        · cases h
      · cases h2
    · rename_i hno
      have hx : xdOf ob (.one (.c (.ptr L 0))) = some (x, ls, ms) := by
        rw [xaOf_ptr] at h2
        cases hL : ob L with
        | none => rw [hL] at h2; exact h2
        | some o =>
          rw [hL] at h2
          cases o with
          | box ty cells => exact absurd hL (hno _ _)
          | _ => exact h2
      rw [data hx]
      split at h
      · simp only [Option.some.injEq] at h; subst h; exact ⟨rfl, fun x hx => by simp at hx⟩
      · cases h
  · rename_i hno
    have hx : xdOf ob d = some (x, ls, ms) := by
      unfold xaOf at h2
      split at h2
      · exact (hno _ rfl).elim
      · exact h2
    rw [data hx]
    split at h
    · simp only [Option.some.injEq] at h; subst h; exact ⟨rfl, fun x hx => by simp at hx⟩
    · cases h
theorem xaPut_V {sf : SlfS} {ob : Nat → Option AO} : ∀ {ds : List DV} {xs ys : List XA} {u : List (Nat × AO)} {ls ms : List Nat}, xaPut ob ds ys = some u → xasOf sf ob ds = some (xs, ls, ms) →
    u.map (·.1) = ls ∧ ∀ x ∈ u, ∀ L ∈ aoV x.2, ∃ o', ob x.1 = some o' ∧ L ∈ aoV o'
  | [], xs, [], u, ls, ms, h, h2 => by
    simp only [xaPut, Option.some.injEq] at h; subst h
    simp only [xasOf, Option.some.injEq, Prod.mk.injEq] at h2; rw [← h2.2.1]
    exact ⟨rfl, fun x hx => by simp at hx⟩
  | [], _, _ :: _, _, _, _, h, _ => by simp [xaPut] at h
  | _ :: _, _, [], _, _, _, h, _ => by simp [xaPut] at h
  | d :: ds, xs, y :: ys, u, ls, ms, h, h2 => by
    simp only [xaPut] at h
    split at h
    · rename_i u1 u2 e1 e2
      simp only [Option.some.injEq] at h; subst h
      simp only [xasOf] at h2
      split at h2
      · rename_i x bl m1 xs' bls m2 h3 h4
        simp only [Option.some.injEq, Prod.mk.injEq] at h2; rw [← h2.2.1]
        obtain ⟨i1, i2⟩ := xaPut_V e2 h4
        obtain ⟨j1, j2⟩ := aPut_V e1 h3
        exact ⟨by simp [i1, j1], fun x hx => (List.mem_append.1 hx).elim (j2 x) (i2 x)⟩
      · cases h2
    · cases h
theorem xcsOf_congr {sf : SlfS} {ob ob' : Nat → Option AO} : ∀ {cells : List Cl}, (∀ L ∈ cells.flatMap clLab, ob' L = ob L) → xcsOf sf ob' cells = xcsOf sf ob cells
  | [], _ => rfl
  | c :: cells, h => by
    have ih : xcsOf sf ob' cells = xcsOf sf ob cells := xcsOf_congr fun L hL => h L (by simp only [List.flatMap_cons, List.mem_append]; exact .inr hL)
    cases c with
    | vec M => simp only [xcsOf, ih, h M (by simp [clLab])]
    | mo M => simp only [xcsOf, ih, h M (by simp [clLab])]
    | _ => simp only [xcsOf, ih]
theorem mut_congr {sf : SlfS} {ob ob' : Nat → Option AO} {d : DV} (h : ∀ L ∈ deepLab ob d, ob' L = ob L) : xaOf sf ob' d = xaOf sf ob d ∧ ∀ y, aPut ob' d y = aPut ob d y := by
  have hx : xdOf ob' d = xdOf ob d := by simp only [xdOf, frzD_congr h]
  by_cases hd : ∃ L, d = .one (.c (.ptr L 0))
  · obtain ⟨L, rfl⟩ := hd
    have hL : ob' L = ob L := h L (deep_mem.2 ⟨L, by simp [dvLab, d1Lab, clLab], .inl rfl⟩)
    refine ⟨?_, fun y => by simp only [aPut, hL]⟩
    rw [xaOf_ptr, xaOf_ptr, hL, hx]
    cases ho : ob L with
    | none => rfl
    | some o =>
      cases o with
      | box ty cells =>
        have : xcsOf sf ob' cells = xcsOf sf ob cells := xcsOf_congr fun M hM => h M (deep_mem.2 ⟨L, by simp [dvLab, d1Lab, clLab], .inr ⟨_, ho, M, hM, .inl rfl⟩⟩)
        simp only [this]
      | _ => rfl
  · refine ⟨?_, fun y => ?_⟩
    · unfold xaOf
      split
      · exact (hd ⟨_, rfl⟩).elim
      · exact hx
    · unfold aPut
      split
      · exact (hd ⟨_, rfl⟩).elim
      · rfl
theorem muts_congr {sf : SlfS} {ob ob' : Nat → Option AO} : ∀ {ds : List DV}, (∀ L ∈ ds.flatMap (deepLab ob), ob' L = ob L) → xasOf sf ob' ds = xasOf sf ob ds ∧ ∀ ys, xaPut ob' ds ys = xaPut ob ds ys
  | [], _ => ⟨rfl, fun ys => by cases ys <;> rfl⟩
  | d :: ds, h => by
    obtain ⟨i1, i2⟩ := muts_congr (sf := sf) (ds := ds) (ob' := ob') fun L hL => h L (by simp only [List.flatMap_cons, List.mem_append]; exact .inr hL)
    obtain ⟨j1, j2⟩ := mut_congr (sf := sf) (ob' := ob') (d := d) fun L hL => h L (by simp only [List.flatMap_cons, List.mem_append]; exact .inl hL)
    refine ⟨by simp only [xasOf, i1, j1], fun ys => ?_⟩
    cases ys with
    | nil => rfl
    | cons y ys => simp only [xaPut, i2, j2]
theorem ok_mut {sf : SlfS} {C : MK} {ds : List DV} (hk : ∀ ev' ob', (∀ x ∈ o.op.operands.toList, ev' x = ev x) → act P Γ o ev' ob' = mutAct C sf ds ob') (hA : mutAct C sf ds ob = A) (hs : A.safe) : ActOk P Γ o ev ob A := by
  unfold mutAct at hA
  split at hA
  · rename_i xs ls ms has
    split at hA
    · rename_i s rs ys hCx
      split at hA
      · rename_i u hput
        split at hA
        · rename_i hcond
          subst hA
          have hcond' := hcond
          simp only [Bool.and_eq_true, Nat.ble_eq] at hcond
          obtain ⟨h1, h2⟩ := xaPut_V hput has
          have hw : ∀ L ∈ (u.filter fun x => !isClo x.2).map (·.1), (L, true) ∈ wr ((u.filter fun x => !isClo x.2).map (·.1)) ++ rd (ds.flatMap (deepLab ob)) := fun L hL => List.mem_append.2 (.inl (rd_mem hL))
          have hul : ∀ x ∈ u.filter fun x => !isClo x.2, x.1 ∈ (u.filter fun x => !isClo x.2).map (·.1) := fun x hx => List.mem_map.2 ⟨x, hx, rfl⟩
          refine ⟨fun x hx => hw _ (hul x hx), ?_, fun x hx L hL => ?_, fun d hd L hL => (by simp only [OpAct.gives] at hd; subst hd; rw [resD_V] at hL; simp at hL), fun ev' ob' he hob => ?_⟩
          · match ms, hcond.1.2, hcond.2 with
            | [], _, _ => exact .inl rfl
            | [x], _, hc => exact .inr ⟨x, rfl, hw x (by simpa using hc)⟩
            | _ :: _ :: _, h, _ => simp at h
          · obtain ⟨o', ho, hL⟩ := h2 x (List.mem_filter.1 hx).1 L hL
            exact .inr ⟨(x.1, true), hw _ (hul x hx), o', ho, hL⟩
          · have hl : ∀ L ∈ ds.flatMap (deepLab ob), ob' L = ob L := fun L hL => hob (L, false) (List.mem_append.2 (.inr (List.mem_map.2 ⟨L, hL, rfl⟩)))
            have e1 := muts_congr (sf := sf) hl
            have e2 : ds.flatMap (deepLab ob') = ds.flatMap (deepLab ob) := fmc fun d hd => deepLab_congr fun L hL => hl L (List.mem_flatMap.2 ⟨d, hd, hL⟩)
            rw [hk ev' ob' he]
            simp only [mutAct, e1.1, has, hCx, e1.2, hput, hcond', e2]
        · subst hA; exact hs.elim
      · subst hA; exact hs.elim
    · subst hA; exact hs.elim
  · subst hA; exact hs.elim
theorem capEs_congr {ev' : Operand → DV} : ∀ {l : List Operand}, (∀ x ∈ l, ev' x = ev x) → capEs ev' l = capEs ev l
  | [], _ => rfl
  | x :: l, h => by simp only [capEs, h x List.mem_cons_self, capEs_congr fun y hy => h y (List.mem_cons_of_mem _ hy)]

theorem ok_data {rs : List PA} {args : Array Operand} {c : Callee} {ts : Array TypeId} {az : List PA} {u : Upd} (hop : o.op = .call { callee := c, args, argTypes := ts })
    (has : frzDs ob (args.toList.map ev) = some (az, u))
    (key : ∀ (ev' : Operand → DV) (ob' : Nat → Option AO), (∀ x ∈ o.op.operands.toList, ev' x = ev x) → (∀ L ∈ args.toList.flatMap fun x => deepLab ob (ev x), ob' L = ob L) →
      act P Γ o ev' ob' = callAct (args.toList.flatMap fun x => deepLab ob (ev x)) u rs) (hA : callAct (args.toList.flatMap fun x => deepLab ob (ev x)) u rs = A) : ActOk P Γ o ev ob A := by
  have hwrT : ∀ L, L ∈ (args.toList.flatMap fun x => deepLab ob (ev x)) → (L, true) ∈ wr (args.toList.flatMap fun x => deepLab ob (ev x)) := fun L hL => List.mem_map.2 ⟨L, hL, rfl⟩
  have hrdF : ∀ L, L ∈ (args.toList.flatMap fun x => deepLab ob (ev x)) → (L, false) ∈ rd (args.toList.flatMap fun x => deepLab ob (ev x)) := fun L hL => List.mem_map.2 ⟨L, hL, rfl⟩
  have hk : ∀ x ∈ u, (x.1, true) ∈ wr (args.toList.flatMap fun x => deepLab ob (ev x)) ∧ aoV x.2 = [] := fun x hx => by
    obtain ⟨h1, h2⟩ := frzDs_keys has x hx
    refine ⟨hwrT _ ?_, h2⟩
    rw [List.flatMap_map] at h1; exact h1
  generalize (args.toList.flatMap fun x => deepLab ob (ev x)) = labs at hA key hk hwrT hrdF
  cases hl : scalR rs || lendB u rs with
  | true =>
    simp only [callAct, hl] at hA key; subst hA
    exact ⟨fun x hx => by simp [OpAct.u] at hx, .inl rfl, fun x hx => by simp [OpAct.u] at hx, fun d hd L hL => (by cases hd; rw [resD_V] at hL; simp at hL), fun ev' ob' he hob => key ev' ob' he fun L hL => hob _ (hrdF L hL)⟩
  | false =>
    simp only [callAct, hl] at hA key; subst hA
    exact ⟨fun x hx => (hk x hx).1, .inl rfl, fun x hx L hL => (by rw [(hk x hx).2] at hL; simp at hL), fun d hd L hL => (by cases hd; rw [resD_V] at hL; simp at hL), fun ev' ob' he hob => key ev' ob' he fun L hL => hob _ (hwrT L hL)⟩
theorem ok_call {f : Operand} {args : Array Operand} {ts : Array TypeId} (hop : o.op = .call { callee := .value f, args, argTypes := ts }) (hA : act P Γ o ev ob = A) (hs : A.safe) : ActOk P Γ o ev ob A := by
  have hm := call_ops hop
  have hf : f ∈ o.op.operands.toList := by simp [hop, Op.operands, Call.operands]
  simp only [act, aCl, hop] at hA
  have e0 : ∀ ev' : Operand → DV, (∀ x ∈ o.op.operands.toList, ev' x = ev x) → args.toList.map ev' = args.toList.map ev := fun ev' he => List.map_congr_left fun x hx => he x (hm x hx)
  split at hA
  · rename_i gf caps hef
    split at hA
    · rename_i C hC
      exact ok_mut (fun ev' ob' he => by simp only [act, aCl, hop, he f hf, hef, hC, e0 ev' he]) hA hs
    · subst hA; exact hs.elim
  · rename_i gf first caps hef
    split at hA
    · rename_i C hC
      exact ok_mut (fun ev' ob' he => by simp only [act, aCl, hop, he f hf, hef, hC, e0 ev' he]) hA hs
    rename_i hC
    split at hA
    · rename_i hk
      split at hA
      · exact ok_own (k := Γ.own gf) hop (fun ev' ob' he => by simp only [act, aCl, hop, he f hf, hef, hC, hk]) hA hs
      · subst hA; exact hs.elim
    rename_i hko
    split at hA
    · rename_i az u has
      split at hA
      case h_2 => subst hA; exact hs.elim
      rename_i rs hrs
      have key : ∀ (ev' : Operand → DV) (ob' : Nat → Option AO), (∀ x ∈ o.op.operands.toList, ev' x = ev x) → (∀ L ∈ args.toList.flatMap fun x => deepLab ob (ev x), ob' L = ob L) →
          act P Γ o ev' ob' = callAct (args.toList.flatMap fun x => deepLab ob (ev x)) u rs := by
        intro ev' ob' he hl
        have e0 : args.toList.map ev' = args.toList.map ev := List.map_congr_left fun x hx => he x (hm x hx)
        have e1 : frzDs ob' (args.toList.map ev) = frzDs ob (args.toList.map ev) := frzDs_congr fun L hL => hl L (by rw [List.flatMap_map] at hL; exact hL)
        have e2 : (args.toList.flatMap fun x => deepLab ob' (ev' x)) = args.toList.flatMap fun x => deepLab ob (ev x) := by
          refine fmc fun x hx => ?_
          rw [he x (hm x hx)]
          exact deepLab_congr fun L hL => hl L (List.mem_flatMap.2 ⟨x, hx, hL⟩)
        simp only [act, aCl, hop, he f hf, hef, hC, hko, e0, e1, has, e2, hrs]
      exact ok_data hop has key hA
    · subst hA; exact hs.elim
  · rename_i gf cells hef
    split at hA
    · rename_i az u has
      split at hA
      case h_2 => subst hA; exact hs.elim
      rename_i rs hrs
      have key : ∀ (ev' : Operand → DV) (ob' : Nat → Option AO), (∀ x ∈ o.op.operands.toList, ev' x = ev x) → (∀ L ∈ args.toList.flatMap fun x => deepLab ob (ev x), ob' L = ob L) →
          act P Γ o ev' ob' = callAct (args.toList.flatMap fun x => deepLab ob (ev x)) u rs := by
        intro ev' ob' he hl
        have e0 : args.toList.map ev' = args.toList.map ev := List.map_congr_left fun x hx => he x (hm x hx)
        have e1 : frzDs ob' (args.toList.map ev) = frzDs ob (args.toList.map ev) := frzDs_congr fun L hL => hl L (by rw [List.flatMap_map] at hL; exact hL)
        have e2 : (args.toList.flatMap fun x => deepLab ob' (ev' x)) = args.toList.flatMap fun x => deepLab ob (ev x) := by
          refine fmc fun x hx => ?_
          rw [he x (hm x hx)]
          exact deepLab_congr fun L hL => hl L (List.mem_flatMap.2 ⟨x, hx, hL⟩)
        simp only [act, aCl, hop, he f hf, hef, e0, e1, has, e2, hrs]
      exact ok_data hop has key hA
    · subst hA; exact hs.elim
  · subst hA; exact hs.elim

theorem ok_makeFunc {f : FuncId} {first caps : Array Operand} (hop : o.op = .makeFunc (.func f) first caps) (hA : act P Γ o ev ob = A) (hs : A.safe) : ActOk P Γ o ev ob A := by
  have hm : ∀ x ∈ first.toList ++ caps.toList, x ∈ o.op.operands.toList := fun x hx => by simp only [hop, Op.operands]; simpa using hx
  simp only [act, aMf, hop] at hA
  split at hA
  · rename_i hmt
    split at hA
    · rename_i cs hf hc
      subst hA
      refine ActOk.pure (fun L hL => by simp [dvV, d1V, clV] at hL) fun ev' ob' he _ => ?_
      have e1 : capEs ev' caps.toList = some cs := (capEs_congr fun x hx => he x (hm x (List.mem_append.2 (.inr hx)))).trans hc
      simp only [act, aMf, hop, hmt, hf, e1]
    · subst hA; exact hs.elim
  rename_i hmt
  have hbc : ∀ ev' : Operand → DV, (∀ x ∈ o.op.operands.toList, ev' x = ev x) → bindA ev' first.toList caps.toList = bindA ev first.toList caps.toList := fun ev' he => by
    unfold bindA
    cases hf : first.toList with
    | nil => rfl
    | cons x r =>
      cases r with
      | cons y r => rfl
      | nil =>
        cases hc : caps.toList with
        | cons y r => rfl
        | nil => simp only []; rw [he x (hm x (by rw [hf]; simp))]
  split at hA
  · rename_i l hb
    subst hA
    exact ActOk.pure (no_men _) fun ev' ob' he _ => by simp only [act, aMf, hop, hmt, hbc ev' he, hb]
  rename_i hbn
  split at hA
  · rename_i l u l' u' h1 h2
    subst hA
    have lab1 : ∀ (x : Operand) (c : Cl), ev x = .one (.c c) → ∀ k, RC ob k (clLab c) → k ∈ deepLab ob (ev x) := fun x c h k hk => by
      rw [h]; exact deep_mem.2 hk
    have clm : ∀ (xs : List Operand), ∀ L ∈ (xs.flatMap fun x => match ev x with | .one (.c c) => [c] | _ => [.junk]).flatMap clLab, ∃ x ∈ xs, ∃ c, ev x = .one (.c c) ∧ L ∈ clLab c := by
      intro xs L hL
      obtain ⟨c, hc, hL⟩ := List.mem_flatMap.1 hL
      obtain ⟨x, hx, hc⟩ := List.mem_flatMap.1 hc
      refine ⟨x, hx, ?_⟩
      split at hc
      · rename_i c' h; simp at hc; subst hc; exact ⟨_, h, hL⟩
      · simp at hc; subst hc; simp [clLab] at hL
    have keys : ∀ (xs : List Operand) (l : List PV) (u : Upd), frzL ob (xs.flatMap fun x => match ev x with | .one (.c c) => [c] | _ => [.junk]) = some (l, u) →
        ∀ x ∈ u, x.1 ∈ xs.flatMap (fun x => deepLab ob (ev x)) ∧ aoV x.2 = [] := by
      intro xs l u h y hy
      obtain ⟨h3, h4⟩ := frzL_keys h y hy
      refine ⟨?_, h4⟩
      obtain ⟨L, hL, h3⟩ := h3
      obtain ⟨x, hx, c, hc, hL⟩ := clm xs _ hL
      exact List.mem_flatMap.2 ⟨x, hx, lab1 x c hc _ ⟨L, hL, h3⟩⟩
    have cong : ∀ (xs : List Operand) (ev' : Operand → DV) (ob' : Nat → Option AO), (∀ x ∈ xs, ev' x = ev x) → (∀ L ∈ xs.flatMap (fun x => deepLab ob (ev x)), ob' L = ob L) →
        frzL ob' (xs.flatMap fun x => match ev' x with | .one (.c c) => [c] | _ => [.junk]) = frzL ob (xs.flatMap fun x => match ev x with | .one (.c c) => [c] | _ => [.junk]) := by
      intro xs ev' ob' he hob
      have e0 : (xs.flatMap fun x => match ev' x with | .one (.c c) => [c] | _ => [.junk]) = xs.flatMap fun x => match ev x with | .one (.c c) => [c] | _ => [.junk] :=
        fmc fun x hx => by rw [he x hx]
      rw [e0]
      refine frzL_congr fun L hL => ?_
      obtain ⟨x, hx, c, hc, hL⟩ := clm xs _ hL
      have hd : ∀ k, RC ob k (clLab c) → ob' k = ob k := fun k hk => hob k (List.mem_flatMap.2 ⟨x, hx, lab1 x c hc _ hk⟩)
      exact ⟨hd L ⟨L, hL, .inl rfl⟩, fun o' ho' M hM => ⟨hd M ⟨L, hL, .inr ⟨o', ho', M, hM, .inl rfl⟩⟩, fun o2 ho2 N hN => hd N ⟨L, hL, .inr ⟨o', ho', M, hM, .inr ⟨o2, ho2, hN⟩⟩⟩⟩⟩
    refine ⟨fun x hx => ?_, .inl rfl, fun x hx L hL => ?_, fun d' hd' L hL => ?_, fun ev' ob' he hob => ?_⟩
    · simp only [OpAct.u] at hx
      refine rd_mem ?_
      rw [List.flatMap_append]
      rcases List.mem_append.1 hx with hx | hx
      · exact List.mem_append.2 (.inl (keys _ _ _ h1 x hx).1)
      · exact List.mem_append.2 (.inr (keys _ _ _ h2 x hx).1)
    · simp only [OpAct.u] at hx
      rcases List.mem_append.1 hx with hx | hx
      · rw [(keys _ _ _ h1 x hx).2] at hL; simp at hL
      · rw [(keys _ _ _ h2 x hx).2] at hL; simp at hL
    · simp only [OpAct.gives] at hd'; subst hd'; simp [dvV, d1V, clV] at hL
    · have hl : ∀ L ∈ (first.toList ++ caps.toList).flatMap fun x => deepLab ob (ev x), ob' L = ob L := fun L hL => hob (L, true) (rd_mem hL)
      have e1 := cong first.toList ev' ob' (fun x hx => he x (hm x (List.mem_append.2 (.inl hx)))) (fun L hL => hl L (by rw [List.flatMap_append]; exact List.mem_append.2 (.inl hL)))
      have e2 := cong caps.toList ev' ob' (fun x hx => he x (hm x (List.mem_append.2 (.inr hx)))) (fun L hL => hl L (by rw [List.flatMap_append]; exact List.mem_append.2 (.inr hL)))
      have e3 : ((first.toList ++ caps.toList).flatMap fun x => deepLab ob' (ev' x)) = (first.toList ++ caps.toList).flatMap fun x => deepLab ob (ev x) := by
        refine fmc fun x hx => ?_
        rw [he x (hm x hx)]
        exact deepLab_congr fun L hL => hl L (List.mem_flatMap.2 ⟨x, hx, hL⟩)
      simp only [act, aMf, hop, hmt, e3, hbc ev' he, hbn]
      split
      · rename_i l2 u2 l3 u3 h3 h4
        have a1 : some (l2, u2) = some (l, u) := h3.symm.trans (e1.trans h1)
        have a2 : some (l3, u3) = some (l', u') := h4.symm.trans (e2.trans h2)
        simp only [Option.some.injEq, Prod.mk.injEq] at a1 a2
        obtain ⟨rfl, rfl⟩ := a1
        obtain ⟨rfl, rfl⟩ := a2
        rfl
      · rename_i hno
        exact (hno l u l' u' (e1.trans h1) (e2.trans h2)).elim
  · subst hA; exact hs.elim

theorem ok_makeSlice {t : TypeId} {x y : Operand} (hop : o.op = .makeSlice t x y) (hA : act P Γ o ev ob = A) (hs : A.safe) : ActOk P Γ o ev ob A := by
  have hx : x ∈ o.op.operands.toList := by simp [hop, Op.operands]
  have hy : y ∈ o.op.operands.toList := by simp [hop, Op.operands]
  have hc0 : ∀ ev' ob', (∀ x ∈ o.op.operands.toList, ev' x = ev x) → act P Γ o ev' ob' = makeAct P Γ t (ev x) (ev y) o.dst ob' := fun ev' ob' he => by simp only [act, hop, he x hx, he y hy]
  have hA0 := hA
  rw [hc0 ev ob (fun _ _ => rfl)] at hA
  unfold makeAct at hA
  split at hA
  · rename_i e k1 j k2 j2 dst hu hex hey hdst
    split at hA
    · rename_i ie z hi hz hfresh
      have fin : ∀ (s : CP) (ao : AO), aoV ao = [] → OpAct.chk [(dst, true)] s (.cl (.vec dst)) [(dst, ao)] [] = A → (∀ ob' : Nat → Option AO, ob' dst = none → makeAct P Γ t (ev x) (ev y) o.dst ob' = A) → ActOk P Γ o ev ob A := by
        intro s ao hao e hcc
        subst e
        refine ⟨fun z hz => ?_, .inl rfl, fun z hz M hM => ?_, fun d' hd' M hM => ?_, fun ev' ob' he hob => ?_⟩
        · simp only [OpAct.u, List.mem_singleton] at hz; subst hz; simp [OpAct.fp]
        · simp only [OpAct.u, List.mem_singleton] at hz; subst hz; rw [hao] at hM; simp at hM
        · simp only [OpAct.gives] at hd'; subst hd'
          simp only [dvV, d1V, clV, List.mem_singleton] at hM; subst hM
          exact .inr (by simp [OpAct.fp])
        · have e2 := hob (dst, true) (by simp [OpAct.fp]); simp only at e2
          rw [hc0 ev' ob' he]
          exact hcc ob' (e2.trans hfresh)
      have hcc : ∀ ob' : Nat → Option AO, ob' dst = none → makeAct P Γ t (ev x) (ev y) o.dst ob' = A := fun ob' h => by
        have : act P Γ o ev ob = A := hA0
        rw [hc0 ev ob (fun _ _ => rfl)] at this
        rw [← this]
        unfold makeAct
        simp only [hu, hex, hey, hdst, hi, hz, hfresh, h]
      split at hA
      · split at hA
        · split at hA
          · split at hA
            · exact fin _ _ rfl hA hcc
            · subst hA; exact hs.elim
          · subst hA; exact hs.elim
        · subst hA; exact hs.elim
      · split at hA
        · split at hA
          · exact fin _ _ rfl hA hcc
          · subst hA; exact hs.elim
        · subst hA; exact hs.elim
    · subst hA; exact hs.elim
  · subst hA; exact hs.elim

theorem actOk (hA : act P Γ o ev ob = A) (hs : A.safe) : ActOk P Γ o ev ob A := by
  have hA' := hA
  cases hop : o.op with
  | move x => simp only [act, hop] at hA; subst hA; exact ok_move (.inl hop)
  | assign x => simp only [act, hop] at hA; subst hA; exact ok_move (.inr hop)
  | pick c x y =>
    simp only [act, aPk, hop] at hA
    split at hA
    · rename_i t hc; subst hA; exact ok_pick hop hc
    · subst hA; exact hs.elim
  | alloc e =>
    simp only [act, aAl, hop] at hA
    split at hA
    · rename_i z hz
      refine ok_putB (ao := .box e z) (d := fun t => .cl (.ptr t 0)) (fun L hL => ?_) (fun t L hL => by simp [dvV, d1V, clV] at hL) (fun ev' ob' _ => by simp only [act, aAl, hop, hz]) hA hs
      simp only [aoV] at hL; rw [zeroT_V hz] at hL; simp at hL
    · subst hA; exact hs.elim
  | box e x =>
    have hx : x ∈ o.op.operands.toList := by simp [hop, Op.operands]
    simp only [act, aBx, hop] at hA
    split at hA
    · rename_i d m hex hm
      split at hA
      · rename_i hcond
        refine ok_putB (ao := .box e d.cells) (d := fun t => .cl (.ptr t 0)) (fun L hL => ?_) (fun t L hL => by simp [dvV, d1V, clV] at hL) (fun ev' ob' he => by simp only [act, aBx, hop, he x hx, hex, hm, hcond]) hA hs
        simp only [aoV] at hL
        rw [cells_V] at hL
        exact .inl ⟨x, hx, by rw [hex]; exact hL⟩
      · subst hA; exact hs.elim
    · subst hA; exact hs.elim
  | build t parts =>
    simp only [act, aBd, hop] at hA
    split at hA
    · rename_i z hf hz
      split at hA
      · rename_i l hl; subst hA; exact ok_build hop hf hz hl
      · subst hA; exact hs.elim
    · subst hA; exact hs.elim
  | buildSlice t m parts => exact ok_buildSlice hop hA' hs
  | load t x => exact ok_load hop hA' hs
  | store t x y => exact ok_store hop hA' hs
  | nilCheck x => exact ok_nilCheck hop hA' hs
  | binOp op t x y t' => exact ok_binOp hop hA' hs
  | unOp op t x => exact ok_unOp hop hA' hs
  | convert t1 t2 x => exact ok_convert hop hA' hs
  | fieldAddr t x f => exact ok_fieldAddr hop hA' hs
  | indexAddr t x y => exact ok_indexAddr hop hA' hs
  | extract x k => exact ok_extract hop hA' hs
  | index t x y => exact ok_index hop hA' hs
  | field t x f => exact ok_field hop hA' hs
  | slice t x lo hi mx =>
    cases mx with
    | none => exact ok_slice hop hA' hs
    | some m => simp only [act, hop] at hA; subst hA; exact hs.elim
  | lookup t x y k => exact ok_lookup hop hA' hs
  | mapUpdate t x y z => exact ok_mapUpdate hop hA' hs
  | makeMap t x =>
    cases x with
    | none => exact ok_makeMap hop hA' hs
    | some x => simp only [act, hop] at hA; subst hA; exact hs.elim
  | makeSlice t x y => exact ok_makeSlice hop hA' hs
  | makeFunc fn first caps =>
    cases fn with
    | func f => exact ok_makeFunc hop hA' hs
    | _ => simp only [act, hop] at hA; subst hA; exact hs.elim
  | call c =>
    obtain ⟨callee, args, ts⟩ := c
    cases callee with
    | value f => exact ok_call hop hA' hs
    | invoke x m => simp only [act, hop] at hA; subst hA; exact hs.elim
    | builtin b =>
      cases b with
      | len => exact ok_len hop hA' hs
      | max => exact ok_mx (.inl rfl) hop hA' hs
      | min => exact ok_mx (.inr rfl) hop hA' hs
      | append => exact ok_append hop hA' hs
      | _ => simp only [act, hop] at hA; subst hA; exact hs.elim
  | _ => simp only [act, hop] at hA; subst hA; exact hs.elim
end
end Go.Pm
namespace Go.Pm
variable [DrawZ]

structure Eqv (σ τ : St) : Prop where
  env : ∀ t, lk σ.env t = lk τ.env t
  objs : ∀ L, lk σ.objs L = lk τ.objs L
  log : ∀ x, x ∈ σ.log ↔ x ∈ τ.log

theorem Eqv.refl (σ : St) : Eqv σ σ := ⟨fun _ => rfl, fun _ => rfl, fun _ => Iff.rfl⟩
theorem Eqv.symm {σ τ : St} (h : Eqv σ τ) : Eqv τ σ := ⟨fun t => (h.env t).symm, fun t => (h.objs t).symm, fun x => (h.log x).symm⟩

theorem evO_congr {e e' : List (Nat × DV)} {x : Operand} (h : ∀ t ∈ tmpO x, lk e t = lk e' t) : evO e x = evO e' x := by
  cases x with
  | tmp t => simp only [evO]; rw [h t (by simp [tmpO])]
  | _ => rfl

theorem killC_nil (x : Cl) : killC [] x = x := by cases x <;> rfl
theorem killD1_nil (x : D1) : killD1 [] x = x := by
  cases x with
  | c x => simp [killD1, killC_nil]
  | agg cs => simp only [killD1]; rw [show killC [] = id from funext killC_nil, List.map_id]
theorem killD_nil (x : DV) : killD [] x = x := by
  cases x with
  | one x => simp [killD, killD1_nil]
  | tup cs => simp only [killD]; rw [show killD1 [] = id from funext killD1_nil, List.map_id]
theorem killO_nil (x : AO) : killO [] x = x := by
  cases x with
  | box ty cs => simp only [killO]; rw [show killC [] = id from funext killC_nil, List.map_id]
  | _ => rfl

theorem killC_id {l : List Nat} {x : Cl} (h : ∀ L ∈ clV x, L ∉ l) : killC l x = x := by
  cases x with
  | vec L =>
    have h1 : l.contains L = false := by simpa using h L (by simp [clV])
    simp only [killC, h1]
  | vptr L s i k =>
    have h1 : l.contains L = false := by simpa using h L (by simp [clV])
    simp only [killC, h1]
  | mo L =>
    have h1 : l.contains L = false := by simpa using h L (by simp [clV])
    simp only [killC, h1]
  | _ => rfl
theorem map_id_of {α : Type} {f : α → α} : ∀ {l : List α}, (∀ x ∈ l, f x = x) → l.map f = l
  | [], _ => rfl
  | x :: l, h => by rw [List.map_cons, h x List.mem_cons_self, map_id_of fun y hy => h y (List.mem_cons_of_mem _ hy)]
theorem killD1_id {l : List Nat} {x : D1} (h : ∀ L ∈ d1V x, L ∉ l) : killD1 l x = x := by
  cases x with
  | c x => simp only [killD1]; rw [killC_id h]
  | agg cs => simp only [killD1]; rw [map_id_of fun x hx => killC_id fun L hL => h L (List.mem_flatMap.2 ⟨x, hx, hL⟩)]
theorem killD_id {l : List Nat} {x : DV} (h : ∀ L ∈ dvV x, L ∉ l) : killD l x = x := by
  cases x with
  | one x => simp only [killD]; rw [killD1_id h]
  | tup cs => simp only [killD]; rw [map_id_of fun x hx => killD1_id fun L hL => h L (List.mem_flatMap.2 ⟨x, hx, hL⟩)]
theorem killO_id {l : List Nat} {x : AO} (h : ∀ L ∈ aoV x, L ∉ l) : killO l x = x := by
  cases x with
  | box ty cs => simp only [killO]; rw [map_id_of fun x hx => killC_id fun L hL => h L (List.mem_flatMap.2 ⟨x, hx, hL⟩)]
  | _ => rfl

theorem killC_V {l : List Nat} {x : Cl} : clV (killC l x) = clV x := by
  cases x with
  | vec L => simp only [killC]; split <;> rfl
  | vptr L s i k => simp only [killC]; split <;> rfl
  | mo L => simp only [killC]; split <;> rfl
  | _ => rfl
theorem killD1_V {l : List Nat} {x : D1} : d1V (killD1 l x) = d1V x := by
  cases x with
  | c x => exact killC_V
  | agg cs => simp only [killD1, d1V, List.flatMap_map]; exact fmc fun x _ => killC_V
theorem killD_V {l : List Nat} {x : DV} : dvV (killD l x) = dvV x := by
  cases x with
  | one x => exact killD1_V
  | tup cs => simp only [killD, dvV, List.flatMap_map]; exact fmc fun x _ => killD1_V
theorem killO_V {l : List Nat} {x : AO} : aoV (killO l x) = aoV x := by
  cases x with
  | box ty cs => simp only [killO, aoV, List.flatMap_map]; exact fmc fun x _ => killC_V
  | _ => rfl

theorem killC_comm {l m : List Nat} (x : Cl) : killC l (killC m x) = killC m (killC l x) := by
  cases x with
  | vec L => simp only [killC]; cases hl : l.contains L <;> cases hm : m.contains L <;> simp only [hl, hm]
  | vptr L s i k => simp only [killC]; cases hl : l.contains L <;> cases hm : m.contains L <;> simp only [hl, hm]
  | mo L => simp only [killC]; cases hl : l.contains L <;> cases hm : m.contains L <;> simp only [hl, hm]
  | _ => rfl
theorem killD1_comm {l m : List Nat} (x : D1) : killD1 l (killD1 m x) = killD1 m (killD1 l x) := by
  cases x with
  | c x => simp only [killD1]; rw [killC_comm]
  | agg cs => simp only [killD1, List.map_map]; rw [show killC l ∘ killC m = killC m ∘ killC l from funext killC_comm]
theorem killD_comm {l m : List Nat} (x : DV) : killD l (killD m x) = killD m (killD l x) := by
  cases x with
  | one x => simp only [killD]; rw [killD1_comm]
  | tup cs => simp only [killD, List.map_map]; rw [show killD1 l ∘ killD1 m = killD1 m ∘ killD1 l from funext killD1_comm]
theorem killO_comm {l m : List Nat} (x : AO) : killO l (killO m x) = killO m (killO l x) := by
  cases x with
  | box ty cs => simp only [killO, List.map_map]; rw [show killC l ∘ killC m = killC m ∘ killC l from funext killC_comm]
  | _ => rfl

theorem lk_kl {α : Type} {f : α → α} : ∀ {l : List (Nat × α)} {t : Nat}, lk (kills f l) t = (lk l t).map f
  | [], _ => rfl
  | (k, a) :: r, t => by
    simp only [kills]
    rw [lk_cons, lk_cons]
    split
    · rfl
    · exact lk_kl

theorem upd_env {σ : St} {i : Nat} {dst : Option Nat} {fp : List (Nat × Bool)} {d : DV} {u : List (Nat × AO)} {kl : List Nat} (t : Nat) :
    lk (σ.upd i dst fp d u kl).env t = if dst = some t then some d else (lk σ.env t).map (killD kl) := by
  cases kl with
  | nil =>
    have e : (lk σ.env t).map (killD []) = lk σ.env t := by cases lk σ.env t <;> simp [killD_nil]
    rw [e]
    cases dst with
    | none => rfl
    | some s => simp only [St.upd, lk_cons, Option.some.injEq]
  | cons K r =>
    cases dst with
    | none => simp only [St.upd, lk_kl]; rw [if_neg (by simp)]
    | some s => simp only [St.upd, lk_cons, lk_kl, Option.some.injEq]
theorem upd_objs {σ : St} {i : Nat} {dst : Option Nat} {fp : List (Nat × Bool)} {d : DV} {u : List (Nat × AO)} {kl : List Nat} (L : Nat) :
    lk (σ.upd i dst fp d u kl).objs L = match lk u L with | some o => some o | none => (lk σ.objs L).map (killO kl) := by
  cases kl with
  | nil =>
    have e : (lk σ.objs L).map (killO []) = lk σ.objs L := by cases lk σ.objs L <;> simp [killO_nil]
    rw [e]
    change lk (u ++ σ.objs) L = _
    rw [lk_append]
    cases lk u L <;> rfl
  | cons K r =>
    simp only [St.upd, lk_append, lk_kl]
    cases lk u L <;> rfl
theorem upd_log {σ : St} {i : Nat} {dst : Option Nat} {fp : List (Nat × Bool)} {d : DV} {u : List (Nat × AO)} {kl : List Nat} : (σ.upd i dst fp d u kl).log = σ.log := by
  cases kl <;> rfl

abbrev OpAct.may : OpAct → DV → Prop := OpAct.gives
theorem OpAct.may_gives {A : OpAct} {d : DV} (h : A.may d) : A.gives d := h
theorem OpAct.may_of_safe {A : OpAct} (h : A.safe) : ∃ d, A.may d := by
  cases A with
  | no => exact h.elim
  | val fp d u kl => exact ⟨d, rfl⟩
  | chk fp s d u kl => exact ⟨d, rfl⟩

def nx (A : OpAct) (lg : List (Nat × Bool) → List Nat → List (Nat × Nat × Nat)) (i : Nat) (dst : Option Nat) (σ : St) (d : DV) : St :=
  (σ.upd i dst A.fp d A.u A.kl).relog (lg A.fp A.kl)

theorem vcAct_may {A : OpAct} {lg : List (Nat × Bool) → List Nat → List (Nat × Nat × Nat)} {i : Nat} {dst : Option Nat} {K : St → Prop} {σ : St} :
    vcAct A lg i dst K σ ↔ A.safe ∧ ∀ d, A.may d → K (nx A lg i dst σ d) := by
  cases A with
  | no => simp [vcAct, OpAct.safe]
  | val fp d u kl => simp [vcAct, OpAct.safe, OpAct.may, OpAct.gives, nx, OpAct.fp, OpAct.u, OpAct.kl]
  | chk fp s d u kl => simp [vcAct, OpAct.safe, OpAct.may, OpAct.gives, nx, OpAct.fp, OpAct.u, OpAct.kl]
section
variable (P : Program) (Γ : Ctrs) (nt : Nat) (ops : Array Oper)

def wantA (env : List (Nat × DV)) (o : Oper) : Option Bool :=
  match o.guard with
  | none => some true
  | some (j, want) =>
    match (ops[j]?).bind (·.dst) with
    | none => none
    | some g =>
      match lk env g with
      | some (.one (.c (.p (.bool b)))) => some (b == want)
      | some (.one (.c .undef)) => some false
      | _ => none

def actG (σ : St) (o : Oper) : OpAct :=
  match okDst nt o.dst, wantA ops σ.env o with
  | true, some true => act P Γ o (evO σ.env) (lk σ.objs)
  | true, some false => .val [] (.cl .undef) [] []
  | _, _ => .no

def lgG (σ : St) (i : Nat) (o : Oper) (fp : List (Nat × Bool)) (kl : List Nat) : List (Nat × Nat × Nat) :=
  match wantA ops σ.env o with
  | some true => mkLog σ i o fp kl
  | _ => []

def vcL : List Nat → (St → Prop) → St → Prop
  | [], K, σ => K σ
  | i :: r, K, σ => match ops[i]? with
    | none => vcL r K σ
    | some o => vcAct (actG P Γ nt ops σ o) (lgG ops σ i o) i o.dst (vcL r K) σ

def looks (σ : St) (o : Oper) : List Nat :=
  match wantA ops σ.env o with
  | some true => readsT ops o
  | _ => gdT ops o

end

section
variable {P : Program} {Γ : Ctrs} {nt : Nat} {ops : Array Oper} {σ τ : St} {o : Oper} {i : Nat} {A : OpAct}

theorem mem_kbOf {L k : Nat} {r : List Nat} : k ∈ kbOf σ (L :: r) ↔ ∃ o, lk σ.objs k = some o ∧ L ∈ aoV o := by
  simp only [kbOf, List.mem_filter, List.mem_map]
  constructor
  · rintro ⟨_, h⟩
    split at h
    · rename_i o ho; exact ⟨o, ho, by simpa using h⟩
    · cases h
  · rintro ⟨o, ho, hL⟩
    refine ⟨⟨(k, o), lk_mem ho, rfl⟩, ?_⟩
    rw [ho]; simpa using hL

theorem looks_sub : ∀ t ∈ looks ops σ o, t ∈ readsT ops o := by
  unfold looks
  split
  · exact fun _ h => h
  · exact fun t h => List.mem_append.2 (.inr h)
theorem gdT_looks : ∀ t ∈ gdT ops o, t ∈ looks ops σ o := by
  unfold looks
  split
  · exact fun t h => List.mem_append.2 (.inr h)
  · exact fun t h => h

theorem wantA_congr {env env' : List (Nat × DV)} (h : ∀ t ∈ gdT ops o, lk env' t = lk env t) : wantA ops env' o = wantA ops env o := by
  unfold wantA
  split
  · rfl
  · rename_i j want hg
    split
    · rfl
    · rename_i g hgt
      rw [h g (by simp [gdT, hg, hgt])]

theorem wantA_V {b : Bool} (h : wantA ops σ.env o = some b) : ∀ t ∈ gdT ops o, ∀ v, lk σ.env t = some v → dvV v = [] := by
  intro t ht v hv
  unfold gdT at ht
  split at ht
  · rename_i j want hg
    split at ht
    · rename_i g hgt
      simp only [List.mem_singleton] at ht
      subst ht
      unfold wantA at h
      rw [hg] at h
      simp only [hgt] at h
      rw [hv] at h
      split at h
      · rename_i e; simp only [Option.some.injEq] at e; subst e; rfl
      · rename_i e; simp only [Option.some.injEq] at e; subst e; rfl
      · cases h
    · simp at ht
  · simp at ht

structure Loc (P : Program) (Γ : Ctrs) (nt : Nat) (ops : Array Oper) (σ : St) (i : Nat) (o : Oper) (A : OpAct) (lg : List (Nat × Nat × Nat)) : Prop where
  fst : ∀ x ∈ lg, x.1 = i
  wr : ∀ x ∈ A.u, (i, x.1, 1) ∈ lg
  kl : A.kl = [] ∨ ∃ L, A.kl = [L]
  kl3 : ∀ L ∈ A.kl, (i, L, 3) ∈ lg
  kl1 : ∀ L ∈ A.kl, (i, L, 1) ∈ lg
  kb : ∀ L ∈ A.kl, ∀ k o', lk σ.objs k = some o' → L ∈ aoV o' → (i, k, 1) ∈ lg
  labu : ∀ x ∈ A.u, ∀ L ∈ aoV x.2, (i, L, 2) ∈ lg
  labd : ∀ d, A.may d → ∀ L ∈ dvV d, (i, L, 2) ∈ lg ∨ (i, L, 1) ∈ lg
  see : ∀ t ∈ looks ops σ o, ∀ v, lk σ.env t = some v → ∀ L ∈ dvV v, (i, L, 2) ∈ lg
  fpm : ∀ y ∈ A.fp, ∀ o', lk σ.objs y.1 = some o' → ∀ L ∈ aoV o', (i, L, 2) ∈ lg
  fpt : ∀ y ∈ A.fp, (i, y.1, 0) ∈ lg ∨ (i, y.1, 1) ∈ lg
  wfp : ∀ x ∈ A.u, (x.1, true) ∈ A.fp
  congr : ∀ τ, (∀ t ∈ looks ops σ o, lk τ.env t = lk σ.env t) → (∀ y ∈ A.fp, lk τ.objs y.1 = lk σ.objs y.1) → actG P Γ nt ops τ o = A
  logc : ∀ τ, (∀ t ∈ looks ops σ o, lk τ.env t = lk σ.env t) → (∀ y ∈ A.fp, lk τ.objs y.1 = lk σ.objs y.1) →
    (∀ L ∈ A.kl, ∀ k, (∃ o', lk τ.objs k = some o' ∧ L ∈ aoV o') ↔ ∃ o', lk σ.objs k = some o' ∧ L ∈ aoV o') → ∀ x, x ∈ lgG ops τ i o A.fp A.kl ↔ x ∈ lg

theorem mkLog_mem {fp : List (Nat × Bool)} {kl : List Nat} {x : Nat × Nat × Nat} : x ∈ mkLog σ i o fp kl ↔
    (∃ y ∈ fp, x = (i, y.1, match y.2 with | true => 1 | false => 0)) ∨ (∃ L ∈ menOf σ o fp, x = (i, L, 2)) ∨ (∃ L ∈ kl, x = (i, L, 3)) ∨ ∃ k ∈ kbOf σ kl, x = (i, k, 1) := by
  simp only [mkLog, List.mem_append, List.mem_map, or_assoc]
  constructor
  · rintro (⟨y, h1, h2⟩ | ⟨y, h1, h2⟩ | ⟨y, h1, h2⟩ | ⟨y, h1, h2⟩)
    · exact .inl ⟨y, h1, h2.symm⟩
    · exact .inr (.inl ⟨y, h1, h2.symm⟩)
    · exact .inr (.inr (.inl ⟨y, h1, h2.symm⟩))
    · exact .inr (.inr (.inr ⟨y, h1, h2.symm⟩))
  · rintro (⟨y, h1, h2⟩ | ⟨y, h1, h2⟩ | ⟨y, h1, h2⟩ | ⟨y, h1, h2⟩)
    · exact .inl ⟨y, h1, h2.symm⟩
    · exact .inr (.inl ⟨y, h1, h2.symm⟩)
    · exact .inr (.inr (.inl ⟨y, h1, h2.symm⟩))
    · exact .inr (.inr (.inr ⟨y, h1, h2.symm⟩))

theorem men_menOf {fp : List (Nat × Bool)} {L : Nat} (h : Men o (evO σ.env) (lk σ.objs) fp L) : L ∈ menOf σ o fp := by
  unfold menOf
  rcases h with ⟨x, hx, hL⟩ | ⟨y, hy, o', ho, hL⟩
  · exact List.mem_append.2 (.inl (List.mem_flatMap.2 ⟨x, hx, hL⟩))
  · refine List.mem_append.2 (.inr (List.mem_flatMap.2 ⟨y, hy, ?_⟩)); rw [ho]; exact hL

theorem menOf_congr {fp : List (Nat × Bool)} (he : ∀ x ∈ o.op.operands.toList, evO τ.env x = evO σ.env x) (hob : ∀ y ∈ fp, lk τ.objs y.1 = lk σ.objs y.1) : menOf τ o fp = menOf σ o fp := by
  unfold menOf
  rw [fmc (f := fun x => dvV (evO τ.env x)) (h := fun x => dvV (evO σ.env x)) fun x hx => by rw [he x hx]]
  congr 1
  exact fmc fun y hy => by rw [hob y hy]

theorem actG_loc (hA : actG P Γ nt ops σ o = A) (hs : A.safe) : Loc P Γ nt ops σ i o A (lgG ops σ i o A.fp A.kl) := by
  have hA' := hA
  unfold actG at hA
  split at hA
  · rename_i hd hw
    have K := actOk hA hs
    have hlg : ∀ fp kl, lgG ops σ i o fp kl = mkLog σ i o fp kl := fun fp kl => by unfold lgG; rw [hw]
    have hlooks : looks ops σ o = readsT ops o := by unfold looks; rw [hw]
    have hmen : ∀ L, Men o (evO σ.env) (lk σ.objs) A.fp L → (i, L, 2) ∈ lgG ops σ i o A.fp A.kl := fun L h => by
      rw [hlg]; exact mkLog_mem.2 (.inr (.inl ⟨L, men_menOf h, rfl⟩))
    have hfw : ∀ L, (L, true) ∈ A.fp → (i, L, 1) ∈ lgG ops σ i o A.fp A.kl := fun L h => by
      rw [hlg]; exact mkLog_mem.2 (.inl ⟨_, h, rfl⟩)
    have hop : ∀ τ : St, (∀ t ∈ looks ops σ o, lk τ.env t = lk σ.env t) → ∀ x ∈ o.op.operands.toList, evO τ.env x = evO σ.env x := fun τ h x hx =>
      evO_congr fun t ht => h t (by rw [hlooks]; exact List.mem_append.2 (.inl (List.mem_flatMap.2 ⟨x, hx, ht⟩)))
    have hwt : ∀ τ : St, (∀ t ∈ looks ops σ o, lk τ.env t = lk σ.env t) → wantA ops τ.env o = some true := fun τ h => by
      rw [wantA_congr (env := σ.env) fun t ht => h t (gdT_looks t ht), hw]
    refine ⟨fun x hx => ?_, fun x hx => hfw _ (K.wr x hx), ?_, fun L hL => ?_, fun L hL => ?_, fun L hL k o' hk hL' => ?_, fun x hx L hL => hmen L (K.labu x hx L hL),
      fun d hd' L hL => (K.labd d (OpAct.may_gives hd') L hL).imp (hmen L) (hfw L), fun t ht v hv L hL => ?_, fun y hy o' ho L hL => hmen L (.inr ⟨y, hy, o', ho, hL⟩), fun y hy => ?_, K.wr, fun τ he hob => ?_, fun τ he hob hkb x => ?_⟩
    · rw [hlg] at hx
      rcases mkLog_mem.1 hx with ⟨_, _, h⟩ | ⟨_, _, h⟩ | ⟨_, _, h⟩ | ⟨_, _, h⟩ <;> rw [h]
    · exact K.kl.imp_right fun ⟨L, h, _⟩ => ⟨L, h⟩
    · rw [hlg]; exact mkLog_mem.2 (.inr (.inr (.inl ⟨L, hL, rfl⟩)))
    · rcases K.kl with h | ⟨M, h, h2⟩
      · rw [h] at hL; simp at hL
      · rw [h] at hL; simp at hL; subst hL; exact hfw _ h2
    · rw [hlg]
      refine mkLog_mem.2 (.inr (.inr (.inr ⟨k, ?_, rfl⟩)))
      rcases K.kl with h | ⟨M, h, h2⟩
      · rw [h] at hL; simp at hL
      · rw [h] at hL ⊢; simp at hL; subst hL; exact mem_kbOf.2 ⟨o', hk, hL'⟩
    · rw [hlooks] at ht
      rcases List.mem_append.1 ht with ht | ht
      · obtain ⟨x, hx, ht⟩ := List.mem_flatMap.1 ht
        refine hmen L (.inl ⟨x, hx, ?_⟩)
        cases x with
        | tmp s => simp only [tmpO, List.mem_singleton] at ht; subst ht; simp only [evO, hv]; exact hL
        | _ => simp [tmpO] at ht
      · rw [wantA_V hw t ht v hv] at hL; simp at hL
    · rw [hlg]
      obtain ⟨L, b⟩ := y
      cases b with
      | true => exact .inr (mkLog_mem.2 (.inl ⟨_, hy, rfl⟩))
      | false => exact .inl (mkLog_mem.2 (.inl ⟨_, hy, rfl⟩))
    · unfold actG
      rw [hd, hwt τ he]
      exact K.congr _ _ (hop τ he) hob
    · have e1 : lgG ops τ i o A.fp A.kl = mkLog τ i o A.fp A.kl := by unfold lgG; rw [hwt τ he]
      rw [e1, hlg, mkLog_mem, mkLog_mem, menOf_congr (hop τ he) hob]
      refine or_congr Iff.rfl (or_congr Iff.rfl (or_congr Iff.rfl ?_))
      rcases K.kl with h | ⟨M, h, h2⟩
      · rw [h]; simp [kbOf]
      · rw [h]
        have : ∀ k, k ∈ kbOf τ [M] ↔ k ∈ kbOf σ [M] := fun k => by rw [mem_kbOf, mem_kbOf]; exact hkb M (by rw [h]; simp) k
        constructor
        · rintro ⟨k, h1, h2⟩; exact ⟨k, (this k).1 h1, h2⟩
        · rintro ⟨k, h1, h2⟩; exact ⟨k, (this k).2 h1, h2⟩
  · rename_i hd hw
    subst hA
    have hlg : ∀ fp kl, lgG ops σ i o fp kl = [] := fun fp kl => by unfold lgG; rw [hw]
    have hlooks : looks ops σ o = gdT ops o := by unfold looks; rw [hw]
    have hwt : ∀ τ : St, (∀ t ∈ looks ops σ o, lk τ.env t = lk σ.env t) → wantA ops τ.env o = some false := fun τ h => by
      rw [wantA_congr (env := σ.env) fun t ht => h t (gdT_looks t ht), hw]
    refine ⟨fun x hx => ?_, fun x hx => ?_, .inl rfl, fun L hL => ?_, fun L hL => ?_, fun L hL => ?_, fun x hx => ?_, fun d hd' L hL => ?_, fun t ht v hv L hL => ?_, fun y hy => ?_, fun y hy => ?_, fun x hx => ?_, fun τ he hob => ?_, fun τ he hob hkb x => ?_⟩
    · rw [hlg] at hx; simp at hx
    · simp [OpAct.u] at hx
    · simp [OpAct.kl] at hL
    · simp [OpAct.kl] at hL
    · simp [OpAct.kl] at hL
    · simp [OpAct.u] at hx
    · simp only [OpAct.gives] at hd'; subst hd'; simp [dvV, d1V, clV] at hL
    · rw [hlooks] at ht; rw [wantA_V hw t ht v hv] at hL; simp at hL
    · simp [OpAct.fp] at hy
    · simp [OpAct.fp] at hy
    · simp [OpAct.u] at hx
    · unfold actG; rw [hd, hwt τ he]
    · rw [hlg]
      have : lgG ops τ i o (OpAct.val [] (.cl .undef) [] []).fp (OpAct.val [] (.cl .undef) [] []).kl = [] := by unfold lgG; rw [hwt τ he]
      rw [this]
  · subst hA; exact hs.elim

theorem nx_env {lg : List (Nat × Bool) → List Nat → List (Nat × Nat × Nat)} {dst : Option Nat} {d : DV} (t : Nat) : lk (nx A lg i dst σ d).env t = if dst = some t then some d else (lk σ.env t).map (killD A.kl) := upd_env t
theorem nx_objs {lg : List (Nat × Bool) → List Nat → List (Nat × Nat × Nat)} {dst : Option Nat} {d : DV} (L : Nat) : lk (nx A lg i dst σ d).objs L = match lk A.u L with | some o => some o | none => (lk σ.objs L).map (killO A.kl) := upd_objs L
theorem nx_log {lg : List (Nat × Bool) → List Nat → List (Nat × Nat × Nat)} {dst : Option Nat} {d : DV} : (nx A lg i dst σ d).log = lg A.fp A.kl ++ σ.log := by simp only [nx, St.relog, upd_log]

theorem actG_eqv (h : Eqv σ τ) (o : Oper) : actG P Γ nt ops τ o = actG P Γ nt ops σ o := by
  unfold actG
  rw [wantA_congr (env := σ.env) fun t _ => (h.env t).symm, show evO τ.env = evO σ.env from funext fun x => evO_congr fun t _ => (h.env t).symm, show lk τ.objs = lk σ.objs from funext fun t => (h.objs t).symm]
theorem lgG_eqv (h : Eqv σ τ) {fp : List (Nat × Bool)} {kl : List Nat} (x : Nat × Nat × Nat) : x ∈ lgG ops σ i o fp kl ↔ x ∈ lgG ops τ i o fp kl := by
  unfold lgG
  rw [wantA_congr (env := σ.env) (env' := τ.env) fun t _ => (h.env t).symm]
  split
  · rw [mkLog_mem, mkLog_mem, menOf_congr (σ := σ) (τ := τ) (fun x _ => evO_congr fun t _ => (h.env t).symm) (fun y _ => (h.objs y.1).symm)]
    refine or_congr Iff.rfl (or_congr Iff.rfl (or_congr Iff.rfl ?_))
    cases kl with
    | nil => simp [kbOf]
    | cons L r =>
      have : ∀ k, k ∈ kbOf σ (L :: r) ↔ k ∈ kbOf τ (L :: r) := fun k => by rw [mem_kbOf, mem_kbOf, h.objs k]
      constructor
      · rintro ⟨k, h1, h2⟩; exact ⟨k, (this k).1 h1, h2⟩
      · rintro ⟨k, h1, h2⟩; exact ⟨k, (this k).2 h1, h2⟩
  · exact Iff.rfl

theorem vcL_eqv {K : St → Prop} (hK : ∀ σ τ, Eqv σ τ → K σ → K τ) : ∀ (l : List Nat) (σ τ : St), Eqv σ τ → vcL P Γ nt ops l K σ → vcL P Γ nt ops l K τ
  | [], σ, τ, h, hv => hK σ τ h hv
  | i :: r, σ, τ, h, hv => by
    simp only [vcL] at hv ⊢
    split at hv
    · exact vcL_eqv hK r σ τ h hv
    · rename_i o ho
      rw [vcAct_may] at hv ⊢
      rw [actG_eqv h]
      refine ⟨hv.1, fun d hd => vcL_eqv hK r _ _ ⟨fun t => ?_, fun L => ?_, fun x => ?_⟩ (hv.2 d hd)⟩
      · rw [nx_env, nx_env, h.env]
      · rw [nx_objs, nx_objs, h.objs]
      · rw [nx_log, nx_log, List.mem_append, List.mem_append, h.log x]
        exact or_congr (lgG_eqv h x) Iff.rfl

theorem vcL_cons_mono {K K' : St → Prop} {l l' : List Nat} {i : Nat} (hK : ∀ σ, vcL P Γ nt ops l K σ → vcL P Γ nt ops l' K' σ) (hv : vcL P Γ nt ops (i :: l) K σ) : vcL P Γ nt ops (i :: l') K' σ := by
  simp only [vcL] at hv ⊢
  split at hv
  · exact hK _ hv
  · rw [vcAct_may] at hv ⊢
    exact ⟨hv.1, fun d hd => hK _ (hv.2 d hd)⟩

theorem vcL_log {K : St → Prop} {R : List (Nat × Nat × Nat) → Prop} (hR : ∀ l m, (∀ x ∈ l, x ∈ m) → R m → R l) (hK : ∀ σ, K σ → R σ.log) : ∀ (l : List Nat) (σ : St), vcL P Γ nt ops l K σ → R σ.log
  | [], σ, hv => hK σ hv
  | i :: r, σ, hv => by
    simp only [vcL] at hv
    split at hv
    · exact vcL_log hR hK r σ hv
    · rw [vcAct_may] at hv
      obtain ⟨d, hd⟩ := OpAct.may_of_safe hv.1
      refine hR _ _ (fun x hx => ?_) (vcL_log hR hK r _ (hv.2 d hd))
      rw [nx_log]; exact List.mem_append.2 (.inr hx)

def NoClash (log : List (Nat × Nat × Nat)) (i j : Nat) : Prop := ∀ L k m, (i, L, k) ∈ log → (j, L, m) ∈ log → clashK k m = false

theorem opt_kill_D {l : List Nat} {x : Option DV} (h : ∀ v, x = some v → ∀ L ∈ dvV v, L ∉ l) : x.map (killD l) = x := by
  cases x with
  | none => rfl
  | some v => simp only [Option.map_some]; rw [killD_id (h v rfl)]
theorem opt_kill_O {l : List Nat} {x : Option AO} (h : ∀ v, x = some v → ∀ L ∈ aoV v, L ∉ l) : x.map (killO l) = x := by
  cases x with
  | none => rfl
  | some v => simp only [Option.map_some]; rw [killO_id (h v rfl)]

theorem clash_of {a b : Oper} (h : clashT ops a b = false) : (∀ t ∈ readsT ops b, a.dst ≠ some t) ∧ (∀ t ∈ readsT ops a, b.dst ≠ some t) ∧ ∀ t, a.dst = some t → b.dst ≠ some t := by
  simp only [clashT, Bool.or_eq_false_iff] at h
  obtain ⟨⟨h1, h2⟩, h3⟩ := h
  refine ⟨fun t ht e => ?_, fun t ht e => ?_, fun t e e' => ?_⟩
  · rw [e] at h1; simp only [meets] at h1
    have : (readsT ops b).contains t = true := by simpa using ht
    rw [this] at h1; cases h1
  · rw [e] at h2; simp only [meets] at h2
    have : (readsT ops a).contains t = true := by simpa using ht
    rw [this] at h2; cases h2
  · rw [e, e'] at h3; simp only [sameDst] at h3
    rw [show Nat.beq t t = true from by simp] at h3; cases h3

theorem vcL_swap {K : St → Prop} {i j : Nat} {oi oj : Oper} {r : List Nat} (hi : ops[i]? = some oi) (hj : ops[j]? = some oj) (hT : clashT ops oi oj = false)
    (hE : ∀ τ τ', Eqv τ τ' → vcL P Γ nt ops r K τ → vcL P Γ nt ops r K τ') (hN : ∀ τ, vcL P Γ nt ops r K τ → NoClash τ.log i j)
    (h : vcL P Γ nt ops (i :: j :: r) K σ) : vcL P Γ nt ops (j :: i :: r) K σ := by
  obtain ⟨cT1, cT2, cT3⟩ := clash_of hT
  simp only [vcL, hi, hj] at h ⊢
  rw [vcAct_may] at h
  obtain ⟨hsA, hA⟩ := h
  generalize hAe : actG P Γ nt ops σ oi = A at hsA hA
  have LA := actG_loc (i := i) hAe hsA
  -- the second operation behind the first: az before it
  have key : ∀ d, A.may d → ∃ B, actG P Γ nt ops (nx A (lgG ops σ i oi) i oi.dst σ d) oj = B ∧ B.safe ∧
      (∀ e, B.may e → vcL P Γ nt ops r K (nx B (lgG ops (nx A (lgG ops σ i oi) i oi.dst σ d) j oj) j oj.dst (nx A (lgG ops σ i oi) i oi.dst σ d) e)) ∧
      NoClash (lgG ops (nx A (lgG ops σ i oi) i oi.dst σ d) j oj B.fp B.kl ++ (lgG ops σ i oi A.fp A.kl)) i j := by
    intro d hd
    have h2 := hA d hd
    rw [vcAct_may] at h2
    obtain ⟨hsB, hB⟩ := h2
    refine ⟨_, rfl, hsB, hB, ?_⟩
    obtain ⟨e, he⟩ := OpAct.may_of_safe hsB
    have := hN _ (hB e he)
    rw [nx_log, nx_log] at this
    intro L k m hk hm
    refine this L k m ?_ ?_
    · rcases List.mem_append.1 hk with h | h
      · exact List.mem_append.2 (.inl h)
      · exact List.mem_append.2 (.inr (List.mem_append.2 (.inl h)))
    · rcases List.mem_append.1 hm with h | h
      · exact List.mem_append.2 (.inl h)
      · exact List.mem_append.2 (.inr (List.mem_append.2 (.inl h)))
  have main : ∀ d, A.may d → ∀ B, actG P Γ nt ops (nx A (lgG ops σ i oi) i oi.dst σ d) oj = B → B.safe →
      (∀ e, B.may e → vcL P Γ nt ops r K (nx B (lgG ops (nx A (lgG ops σ i oi) i oi.dst σ d) j oj) j oj.dst (nx A (lgG ops σ i oi) i oi.dst σ d) e)) →
      NoClash (lgG ops (nx A (lgG ops σ i oi) i oi.dst σ d) j oj B.fp B.kl ++ (lgG ops σ i oi A.fp A.kl)) i j →
      actG P Γ nt ops σ oj = B ∧ ∀ e, B.may e → actG P Γ nt ops (nx B (lgG ops σ j oj) j oj.dst σ e) oi = A ∧
        vcL P Γ nt ops r K (nx A (lgG ops (nx B (lgG ops σ j oj) j oj.dst σ e) i oi) i oi.dst (nx B (lgG ops σ j oj) j oj.dst σ e) d) := by
    intro d hd B hBe hsB hB hno
    generalize hσ1 : nx A (lgG ops σ i oi) i oi.dst σ d = σ1 at hBe hB hno
    have LB := actG_loc (i := j) hBe hsB
    have no : ∀ L k m, (i, L, k) ∈ lgG ops σ i oi A.fp A.kl → (j, L, m) ∈ lgG ops σ1 j oj B.fp B.kl → clashK k m = true → False := fun L k m h1 h2 hc => by
      have := hno L k m (List.mem_append.2 (.inr h1)) (List.mem_append.2 (.inl h2))
      rw [this] at hc; cases hc
    have env1 : ∀ t, lk σ1.env t = if oi.dst = some t then some d else (lk σ.env t).map (killD A.kl) := fun t => by rw [← hσ1, nx_env]
    have objs1 : ∀ L, lk σ1.objs L = match lk A.u L with | some o => some o | none => (lk σ.objs L).map (killO A.kl) := fun L => by rw [← hσ1, nx_objs]
    -- what the second looks at, the first has not changed
    have seeB : ∀ t ∈ looks ops σ1 oj, lk σ.env t = lk σ1.env t := by
      intro t ht
      have e := env1 t
      rw [if_neg (cT1 t (looks_sub t ht))] at e
      rw [e]
      refine (opt_kill_D fun v hv L hL hk => ?_).symm
      rw [hv, Option.map_some] at e
      exact no L 3 2 (LA.kl3 L hk) (LB.see t ht _ e L (by rw [killD_V]; exact hL)) rfl
    have fpB : ∀ y ∈ B.fp, lk σ.objs y.1 = lk σ1.objs y.1 := by
      intro y hy
      have e := objs1 y.1
      have hn : lk A.u y.1 = none := by
        cases hu : lk A.u y.1 with
        | none => rfl
        | some o' =>
          have h1 := LA.wr _ (lk_mem hu)
          rcases LB.fpt y hy with h2 | h2
          · exact (no _ _ _ h1 h2 rfl).elim
          · exact (no _ _ _ h1 h2 rfl).elim
      rw [hn] at e
      simp only at e
      rw [e]
      refine (opt_kill_O fun v hv L hL hk => ?_).symm
      rw [hv, Option.map_some] at e
      exact no L 3 2 (LA.kl3 L hk) (LB.fpm y hy _ e L (by rw [killO_V]; exact hL)) rfl
    have hBσ := LB.congr σ seeB fpB
    refine ⟨hBσ, fun e he => ?_⟩
    generalize hσ1' : nx B (lgG ops σ j oj) j oj.dst σ e = σ1'
    have env1' : ∀ t, lk σ1'.env t = if oj.dst = some t then some e else (lk σ.env t).map (killD B.kl) := fun t => by rw [← hσ1', nx_env]
    have objs1' : ∀ L, lk σ1'.objs L = match lk B.u L with | some o => some o | none => (lk σ.objs L).map (killO B.kl) := fun L => by rw [← hσ1', nx_objs]
    have seeA : ∀ t ∈ looks ops σ oi, lk σ1'.env t = lk σ.env t := by
      intro t ht
      rw [env1', if_neg (cT2 t (looks_sub t ht))]
      exact opt_kill_D fun v hv L hL hk => no L 2 3 (LA.see t ht v hv L hL) (LB.kl3 L hk) rfl
    have uB : ∀ y ∈ A.fp, lk B.u y.1 = none := by
      intro y hy
      cases hu : lk B.u y.1 with
      | none => rfl
      | some o' =>
        have h1 := LB.wr _ (lk_mem hu)
        rcases LA.fpt y hy with h2 | h2
        · exact (no _ _ _ h2 h1 rfl).elim
        · exact (no _ _ _ h2 h1 rfl).elim
    have fpA : ∀ y ∈ A.fp, lk σ1'.objs y.1 = lk σ.objs y.1 := by
      intro y hy
      rw [objs1', uB y hy]
      exact opt_kill_O fun v hv L hL hk => no L 2 3 (LA.fpm y hy v hv L hL) (LB.kl3 L hk) rfl
    have hAσ := LA.congr σ1' seeA fpA
    refine ⟨hAσ, hE _ _ ⟨fun t => ?_, fun L => ?_, fun x => ?_⟩ (hB e he)⟩
    · -- the temporaries
      rw [nx_env, nx_env, env1, env1']
      by_cases h1 : oj.dst = some t
      · rw [if_pos h1, if_pos h1, if_neg fun h2 => cT3 t h2 h1, Option.map_some, killD_id fun L hL hk => ?_]
        rcases LB.labd e he L hL with h3 | h3
        · exact no L 3 2 (LA.kl3 L hk) h3 rfl
        · exact no L 1 1 (LA.kl1 L hk) h3 rfl
      · rw [if_neg h1, if_neg h1]
        by_cases h2 : oi.dst = some t
        · rw [if_pos h2, if_pos h2, Option.map_some, killD_id fun L hL hk => ?_]
          rcases LA.labd d hd L hL with h3 | h3
          · exact no L 2 3 h3 (LB.kl3 L hk) rfl
          · exact no L 1 1 h3 (LB.kl1 L hk) rfl
        · rw [if_neg h2, if_neg h2]
          cases lk σ.env t with
          | none => rfl
          | some v => simp only [Option.map_some]; rw [killD_comm]
    · -- the objects
      rw [nx_objs, nx_objs, objs1, objs1']
      cases hb : lk B.u L with
      | some ob =>
        cases ha : lk A.u L with
        | some oa => exact (no L 1 1 (LA.wr _ (lk_mem ha)) (LB.wr _ (lk_mem hb)) rfl).elim
        | none =>
          simp only [Option.map_some]
          rw [killO_id fun M hM hk => no M 3 2 (LA.kl3 M hk) (LB.labu _ (lk_mem hb) M hM) rfl]
      | none =>
        cases ha : lk A.u L with
        | some oa =>
          simp only [Option.map_some]
          rw [killO_id fun M hM hk => no M 2 3 (LA.labu _ (lk_mem ha) M hM) (LB.kl3 M hk) rfl]
        | none =>
          simp only
          cases lk σ.objs L with
          | none => rfl
          | some v => simp only [Option.map_some]; rw [killO_comm]
    · -- the log
      rw [nx_log, nx_log]
      have l1 : σ1.log = lgG ops σ i oi A.fp A.kl ++ σ.log := by rw [← hσ1, nx_log]
      have l2 : σ1'.log = lgG ops σ j oj B.fp B.kl ++ σ.log := by rw [← hσ1', nx_log]
      rw [l1, l2]
      have e1 : x ∈ lgG ops σ j oj B.fp B.kl ↔ x ∈ lgG ops σ1 j oj B.fp B.kl := by
        refine LB.logc σ seeB fpB (fun L hL k => ?_) x
        rw [objs1]
        cases ha : lk A.u k with
        | some oa =>
          simp only [Option.some.injEq]
          constructor
          · rintro ⟨o', ho, hL'⟩
            exact (no L 2 3 (LA.fpm _ (LA.wfp _ (lk_mem ha)) o' ho L hL') (LB.kl3 L hL) rfl).elim
          · rintro ⟨o', rfl, hL'⟩
            exact (no L 2 3 (LA.labu _ (lk_mem ha) L hL') (LB.kl3 L hL) rfl).elim
        | none =>
          simp only
          cases lk σ.objs k with
          | none => simp
          | some v => simp [killO_V]
      have e2 : x ∈ lgG ops σ1' i oi A.fp A.kl ↔ x ∈ lgG ops σ i oi A.fp A.kl := by
        refine LA.logc σ1' seeA fpA (fun L hL k => ?_) x
        rw [objs1']
        cases hb : lk B.u k with
        | some ob =>
          simp only [Option.some.injEq]
          constructor
          · rintro ⟨o', rfl, hL'⟩
            exact (no L 3 2 (LA.kl3 L hL) (LB.labu _ (lk_mem hb) L hL') rfl).elim
          · rintro ⟨o', ho, hL'⟩
            exact (no k 1 1 (LA.kb L hL k o' ho hL') (LB.wr _ (lk_mem hb)) rfl).elim
        | none =>
          simp only
          cases lk σ.objs k with
          | none => simp
          | some v => simp [killO_V]
      simp only [List.mem_append]
      rw [e1, e2, ← or_assoc, ← or_assoc]
      exact or_congr (or_comm) Iff.rfl
  rw [vcAct_may]
  obtain ⟨d0, hd0⟩ := OpAct.may_of_safe hsA
  obtain ⟨B, hBe, hsB, hB, hno⟩ := key d0 hd0
  obtain ⟨hBσ, hrest⟩ := main d0 hd0 B hBe hsB hB hno
  rw [hBσ]
  refine ⟨hsB, fun e he => ?_⟩
  rw [vcAct_may]
  rw [(hrest e he).1]
  refine ⟨hsA, fun d hd => ?_⟩
  obtain ⟨B', hBe', hsB', hB', hno'⟩ := key d hd
  obtain ⟨hBσ', hrest'⟩ := main d hd B' hBe' hsB' hB' hno'
  have hBB : B' = B := hBσ'.symm.trans hBσ
  subst hBB
  exact (hrest' e he).2

end
end Go.Pm
namespace Go.Pm
variable [DrawZ]
open Go.RowKit (Below)

section
variable {P : Program} {Γ : Ctrs} {nt B : Nat} {w0 : World} {h0 : Fz} {g : Gh} {σ : St} {a : Act} {w : World} {r : Option Nat} {n i : Nat} {Q : Exit → Act → World → Prop} {ops : Array Oper}

theorem vcL_of_ops {K : St → Prop} (hK : ∀ σ τ, Eqv σ τ → K σ → K τ) : ∀ (l : List Oper) (i : Nat) (σ : St), (∀ j, l[j]? = ops[i + j]?) → vcOps P Γ nt ops i l K σ → vcL P Γ nt ops (List.range' i l.length) K σ := by
  intro l
  induction l with
  | nil => intro i σ _ h; exact h
  | cons o l ih =>
    intro i σ hl h
    have ho : ops[i]? = some o := by have := hl 0; simpa using this.symm
    have hl' : ∀ j, l[j]? = ops[i + 1 + j]? := fun j => by have := hl (j + 1); rw [List.getElem?_cons_succ] at this; rw [this]; congr 1; omega
    rw [List.length_cons, List.range'_succ]
    simp only [vcOps] at h
    split at h
    · exact h.elim
    · rename_i hd
      have one : ∀ τ : St, wantA ops τ.env o = some true → vcAct (act P Γ o (evO τ.env) (lk τ.objs)) (mkLog τ i o) i o.dst (vcOps P Γ nt ops (i + 1) l K) τ → vcL P Γ nt ops (i :: List.range' (i + 1) l.length) K τ := by
        intro τ hw hv
        simp only [vcL, ho]
        have e1 : actG P Γ nt ops τ o = act P Γ o (evO τ.env) (lk τ.objs) := by unfold actG; rw [hd, hw]
        have e2 : lgG ops τ i o = mkLog τ i o := by funext fp kl; unfold lgG; rw [hw]
        rw [e1, e2]
        rw [vcAct_may] at hv ⊢
        exact ⟨hv.1, fun d hd => ih (i + 1) _ hl' (hv.2 d hd)⟩
      have two : ∀ τ : St, wantA ops τ.env o = some false → vcOps P Γ nt ops (i + 1) l K (τ.skip o.dst) → vcL P Γ nt ops (i :: List.range' (i + 1) l.length) K τ := by
        intro τ hw hv
        simp only [vcL, ho]
        have e1 : actG P Γ nt ops τ o = .val [] (.cl .undef) [] [] := by unfold actG; rw [hd, hw]
        have e2 : lgG ops τ i o = fun _ _ => [] := by funext fp kl; unfold lgG; rw [hw]
        rw [e1, e2]
        change vcL P Γ nt ops (List.range' (i + 1) l.length) K ((τ.upd i o.dst [] (.cl .undef) [] []).relog [])
        have e3 : (τ.upd i o.dst [] (.cl .undef) [] []).relog [] = τ.skip o.dst := by cases o.dst <;> rfl
        rw [e3]
        exact ih (i + 1) _ hl' hv
      split at h
      · rename_i hg
        exact one σ (by unfold wantA; rw [hg]) h
      · rename_i j want hg
        split at h
        · exact h.elim
        · rename_i gt hgt
          have wt : ∀ b, wantA ops (σ.setT gt (.bool b)).env o = some (b == want) := fun b => by
            unfold wantA
            rw [hg]
            simp only [hgt]
            rw [show lk (σ.setT gt (.bool b)).env gt = some (.bool b) by simp [St.setT, lk_cons]]
          split at h
          · rename_i b hb
            have eq : ∀ c, b = c → Eqv (σ.setT gt (.bool c)) σ := fun c hc => ⟨fun t => by
              simp only [St.setT, lk_cons]
              split
              · rename_i e; subst e; rw [hb, hc]
              · rfl, fun _ => rfl, fun _ => Iff.rfl⟩
            have h2 := condP_iff.1 h
            refine vcL_eqv hK _ _ _ (eq b rfl) ?_
            cases b with
            | true =>
              have h3 := h2.1 rfl
              cases want with
              | true => exact one _ (wt true) h3
              | false => exact two _ (wt true) h3
            | false =>
              have h3 := h2.2 rfl
              cases want with
              | true => exact two _ (wt false) h3
              | false => exact one _ (wt false) h3
          · rename_i hb
            refine two σ ?_ h
            unfold wantA
            rw [hg]
            simp only [hgt]
            rw [hb]
          · exact h.elim

theorem vcL_op (hok : OkAll P Γ) {K : St → Prop} {l : List Nat} {R : Act → World → Prop} {D : List Nat} {a0 : Act} {ad : List Deferred} (hD : ∀ (j : Nat) (o : Oper), ops[j]? = some o → ∀ t, o.dst = some t → t ∈ D)
    (hv : vcL P Γ nt ops (i :: l) K σ) (S : Sim P nt B w0 h0 g σ a w) (hkp : Kp D a0 a) (had : a.defers = ad)
    (hR : ∀ σ' g' a' w', vcL P Γ nt ops l K σ' → Sim P nt B w0 h0 g' σ' a' w' → Kp D a0 a' → a'.defers = ad → R a' w') : wpOpIn (FR r) n P ops Q i R a w := by
  simp only [vcL] at hv
  unfold wpOpIn
  split at hv
  · rename_i ho
    rw [ho]
    exact hR σ g a w hv S hkp had
  · rename_i o ho
    rw [ho]
    simp only
    obtain ⟨hs, hk⟩ := vcAct_iff.1 hv
    have wnt : ∀ b, wantA ops σ.env o = some b → Region.wanted o (yielded ops a.tmps) = b := by
      intro b hw
      unfold wantA at hw
      split at hw
      · rename_i hg
        simp only [Option.some.injEq] at hw; subst hw
        simp [Region.wanted, hg]
      · rename_i j want hg
        split at hw
        · cases hw
        · rename_i gt hgt
          split at hw
          · rename_i c hb
            simp only [Option.some.injEq] at hw; subst hw
            have hvv : a.tmps.getD gt undef = .bool c := by
              have := S.env gt _ hb
              generalize a.tmps.getD gt undef = v at this
              cases this; rfl
            simp [Region.wanted, hg, yielded_bool hgt hvv]
          · rename_i hb
            simp only [Option.some.injEq] at hw; subst hw
            have hvv : a.tmps.getD gt undef = undef := S.env gt _ hb
            simp [Region.wanted, hg, yielded_undef hgt hvv]
          · cases hw
    generalize hA : actG P Γ nt ops σ o = A at hs hk
    have hA' := hA
    unfold actG at hA
    split at hA
    · rename_i hd hw
      rw [if_pos (wnt true hw)]
      refine op_mono (op_put (act_sound (i := i) (Q := Q) (r := r) (n := n) hok S hd hA hs)) ?_
      rintro a' w' ⟨⟨hdf, g', σ', hst, S'⟩, v, ds, rfl⟩
      exact hR _ g' _ w' (hk σ' hst) (S'.log _) (hkp.put (hD i o ho) v ds ((put_defers _ _ _).symm.trans hdf)) (hdf.trans had)
    · rename_i hd hw
      rw [if_neg (by rw [wnt false hw]; simp)]
      refine ⟨fun _ _ => trivial, ?_⟩
      subst hA
      refine hR _ g _ w (hk _ rfl) ?_ (hkp.put (hD i o ho) undef a.defers rfl) ((put_defers _ _ _).trans had)
      have := S.skip hd
      have e : (σ.upd i o.dst [] (.cl .undef) [] []) = σ.skip o.dst := by cases o.dst <;> rfl
      rw [e]
      exact this.log _
    · subst hA; exact hs.elim

theorem vcL_front {K : St → Prop} {i : Nat} {oi : Oper} {l2 : List Nat} (hi : ops[i]? = some oi) (hE : ∀ σ τ, Eqv σ τ → K σ → K τ) {R : List (Nat × Nat × Nat) → Prop} (hR : ∀ l m, (∀ x ∈ l, x ∈ m) → R m → R l) (hK : ∀ σ, K σ → R σ.log) :
    ∀ (l1 : List Nat) (σ : St), (∀ p ∈ l1, (∀ log, R log → NoClash log p i) ∧ ∀ op, ops[p]? = some op → clashT ops op oi = false) →
      vcL P Γ nt ops (l1 ++ i :: l2) K σ → vcL P Γ nt ops (i :: (l1 ++ l2)) K σ
  | [], σ, _, h => h
  | p :: l1, σ, hp, h => by
    have h1 : vcL P Γ nt ops (p :: i :: (l1 ++ l2)) K σ := vcL_cons_mono (fun σ h => vcL_front hi hE hR hK l1 σ (fun q hq => hp q (List.mem_cons_of_mem _ hq)) h) h
    obtain ⟨hN, hT⟩ := hp p List.mem_cons_self
    cases hop : ops[p]? with
    | none =>
      have e : ∀ l σ, vcL P Γ nt ops (p :: l) K σ ↔ vcL P Γ nt ops l K σ := fun l σ => by simp only [vcL, hop]
      have h2 := (e _ _).1 h1
      exact vcL_cons_mono (fun τ h => (e _ _).2 h) h2
    | some op =>
      exact vcL_swap hop hi (hT op hop) (fun τ τ' he hv => vcL_eqv hE _ _ _ he hv) (fun τ hv => hN _ (vcL_log hR hK _ _ hv)) h1

theorem maskOf_bits {ms : List Nat} {S : Nat → Prop} {p : Nat} : ∀ (es : List Edge), (∀ e ∈ es, Region.binds .any e = true → S e.on) →
    (∀ k m, ms[k]? = some m → S k → m.testBit p = true → S p) → (maskOf ms es).testBit p = true → S p
  | [], _, _, h => by simp [maskOf] at h
  | e :: r, he, hm, h => by
    have ih := maskOf_bits (ms := ms) (p := p) r (fun e' h' => he e' (List.mem_cons_of_mem _ h')) hm
    simp only [maskOf] at h
    split at h
    · rename_i m hb hms
      have hS := he e List.mem_cons_self hb
      rw [Nat.testBit_or, Nat.testBit_or, Bool.or_eq_true, Bool.or_eq_true] at h
      rcases h with (h | h) | h
      · rw [Nat.testBit_two_pow] at h
        have : e.on = p := of_decide_eq_true h
        rw [← this]; exact hS
      · exact hm _ _ hms hS h
      · exact ih h
    · exact ih h

theorem masks_bits {S : Nat → Prop} {p : Nat} (hcl : ∀ (k : Nat) (o : Oper), ops[k]? = some o → S k → ∀ e ∈ o.after, Region.binds .any e = true → S e.on) : ∀ (l : List Oper) (ms : List Nat), (∀ j, l[j]? = ops[ms.length + j]?) →
    (∀ (k : Nat) (o : Oper) (m : Nat), ops[k]? = some o → ms[k]? = some m → (∀ e ∈ o.after, Region.binds .any e = true → S e.on) → m.testBit p = true → S p) →
    ∀ (k : Nat) (o : Oper) (m : Nat), ops[k]? = some o → (masks l ms)[k]? = some m → (∀ e ∈ o.after, Region.binds .any e = true → S e.on) → m.testBit p = true → S p
  | [], ms, _, h => h
  | o :: r, ms, hl, h => by
    have ho : ops[ms.length]? = some o := by have := hl 0; simpa using this.symm
    simp only [masks]
    refine masks_bits hcl r (ms ++ [maskOf ms o.after.toList]) (fun j => by have := hl (j + 1); rw [List.getElem?_cons_succ] at this; rw [this, List.length_append]; congr 1; simp; omega) ?_
    intro k ok m hk hm he hb
    rw [List.getElem?_append] at hm
    split at hm
    · exact h k ok m hk hm he hb
    · rename_i hlt
      have hk' : k = ms.length := by
        rcases Nat.lt_or_ge k (ms.length + 1) with h1 | h1
        · omega
        · rw [List.getElem?_eq_none (by simp; omega)] at hm; cases hm
      subst hk'
      rw [ho] at hk
      simp only [Option.some.injEq] at hk; subst hk
      simp only [Nat.sub_self, List.getElem?_cons_zero, Option.some.injEq] at hm
      subst hm
      refine maskOf_bits _ (fun e h' => he e (by simpa using h')) (fun k' m' hm' hS hb' => ?_) hb
      have hlt' : k' < ms.length := by
        rcases Nat.lt_or_ge k' ms.length with h1 | h1
        · exact h1
        · rw [List.getElem?_eq_none h1] at hm'; cases hm'
      cases hok : ops[k']? with
      | some ok' => exact h k' ok' m' hok hm' (hcl k' ok' hok hS) hb'
      | none =>
        have hlen : ms.length < ops.size := by
          rcases Nat.lt_or_ge ms.length ops.size with h1 | h1
          · exact h1
          · rw [Array.getElem?_eq_none h1] at ho; cases ho
        rw [Array.getElem?_eq_none_iff] at hok; omega

def LogOk (ms : List Nat) (log : List (Nat × Nat × Nat)) : Prop := logOk ms log = true
theorem LogOk.sub {ms : List Nat} (l m : List (Nat × Nat × Nat)) (h : ∀ x ∈ l, x ∈ m) (hm : LogOk ms m) : LogOk ms l := by
  simp only [LogOk, logOk, List.all_eq_true] at hm ⊢
  exact fun x hx y hy => hm x (h x hx) y (h y hy)
theorem LogOk.no {ms : List Nat} {log : List (Nat × Nat × Nat)} (h : LogOk ms log) {p i : Nat} (hpi : p < i) (hb : ∀ m, ms[i]? = some m → m.testBit p = false) : NoClash log p i := by
  intro L k m h1 h2
  simp only [LogOk, logOk, List.all_eq_true] at h
  have := h _ h1 _ h2
  simp only [Bool.or_eq_true, Bool.not_eq_true'] at this
  rcases this with ((h3 | h3) | h3) | h3
  · rw [show Nat.blt p i = true from by simpa [Nat.blt_eq] using hpi] at h3; cases h3
  · rw [show Nat.beq L L = true from by simp] at h3; cases h3
  · exact h3
  · split at h3
    · rename_i m' hm'; rw [hb m' hm'] at h3; cases h3
    · cases h3

def unl (ops : Array Oper) (listed : Array Bool) : List Nat := (List.range ops.size).filter fun k => !listed.getD k true

theorem ready_iff {listed : Array Bool} : i ∈ Region.ready .any ops listed ↔ i ∈ unl ops listed ∧ ∃ o, ops[i]? = some o ∧ ∀ e ∈ o.after, Region.binds .any e = true → listed.getD e.on false = true := by
  simp only [Region.ready, unl, List.mem_filter, Bool.and_eq_true]
  constructor
  · rintro ⟨h1, h2, h3⟩
    refine ⟨⟨h1, h2⟩, ?_⟩
    cases ho : ops[i]? with
    | none => rw [ho] at h3; simp at h3
    | some o =>
      rw [ho] at h3
      simp only [Option.map_some, Option.getD_some, Array.all_eq_true_iff_forall_mem, Bool.or_eq_true, Bool.not_eq_true'] at h3
      refine ⟨o, rfl, fun e he hb => ?_⟩
      rcases h3 e he with h | h
      · rw [hb] at h; cases h
      · exact h
  · rintro ⟨⟨h1, h2⟩, o, ho, h3⟩
    refine ⟨h1, h2, ?_⟩
    rw [ho]
    simp only [Option.map_some, Option.getD_some, Array.all_eq_true_iff_forall_mem, Bool.or_eq_true, Bool.not_eq_true']
    intro e he
    cases hb : Region.binds .any e with
    | false => exact .inl rfl
    | true => exact .inr (h3 e he hb)

theorem getD_set {listed : Array Bool} {i k : Nat} {b : Bool} : (listed.setIfInBounds i true).getD k b = if k = i ∧ k < listed.size then true else listed.getD k b := by
  rw [Array.getD_eq_getD_getElem?, Array.getD_eq_getD_getElem?, Array.getElem?_setIfInBounds]
  by_cases h : i = k
  · subst h
    by_cases hs : i < listed.size
    · simp [hs]
    · simp [hs]
  · rw [if_neg h, if_neg (by omega)]

theorem unl_set {listed : Array Bool} (hsz : listed.size = ops.size) : unl ops (listed.setIfInBounds i true) = (unl ops listed).filter fun k => !(k == i) := by
  unfold unl
  rw [List.filter_filter]
  refine List.filter_congr fun k hk => ?_
  have hk := List.mem_range.1 hk
  rw [getD_set]
  by_cases h : k = i
  · subst h; rw [if_pos ⟨rfl, by omega⟩]; simp
  · rw [if_neg (fun h' => h h'.1)]; simp [h]

theorem vcL_any (hok : OkAll P Γ) {K : St → Prop} {D : List Nat} {a0 : Act} {ad : List Deferred} (hD : ∀ (j : Nat) (o : Oper), ops[j]? = some o → ∀ t, o.dst = some t → t ∈ D) (hE : ∀ σ τ, Eqv σ τ → K σ → K τ) (hlow : lowOk ops = true) (hT : tmpsOk ops (masks ops.toList []) = true)
    (hL : ∀ σ, K σ → LogOk (masks ops.toList []) σ.log) (hQ : ∀ σ', K σ' → ∀ g' a' w', Sim P nt B w0 h0 g' σ' a' w' → Kp D a0 a' → a'.defers = ad → Q .normal a' w') :
    ∀ (fuel : Nat) (listed : Array Bool) (σ : St) (g : Gh) (a : Act) (w : World), listed.size = ops.size → (unl ops listed).length ≤ fuel →
      (∀ k o, ops[k]? = some o → listed.getD k false = true → ∀ e ∈ o.after, Region.binds .any e = true → listed.getD e.on false = true) →
      vcL P Γ nt ops (unl ops listed) K σ → Sim P nt B w0 h0 g σ a w → Kp D a0 a → a.defers = ad → wpAnyIn (FR r) n P .any ops Q fuel listed a w := by
  -- if nothing is ready, nothing is left
  have stuck : ∀ listed : Array Bool, Region.ready .any ops listed = [] → unl ops listed = [] := by
    intro listed hr
    cases hu : unl ops listed with
    | nil => rfl
    | cons i rest =>
      exfalso
      have hi : i ∈ unl ops listed := by rw [hu]; exact List.mem_cons_self
      have hsz : i < ops.size := List.mem_range.1 (List.mem_filter.1 hi).1
      have hsort : (unl ops listed).Pairwise (· < ·) := List.Pairwise.filter _ List.pairwise_lt_range
      have : i ∈ Region.ready .any ops listed := by
        refine ready_iff.2 ⟨hi, ops[i], Array.getElem?_eq_getElem hsz, fun e he hb => ?_⟩
        simp only [lowOk, List.all_eq_true] at hlow
        have h1 := hlow i (List.mem_range.2 hsz)
        rw [Array.getElem?_eq_getElem hsz] at h1
        simp only [List.all_eq_true, Bool.or_eq_true, Bool.not_eq_true'] at h1
        have h2 : e.on < i := by
          rcases h1 e (by simpa using he) with h | h
          · rw [hb] at h; cases h
          · simpa [Nat.blt_eq] using h
        cases hl : listed.getD e.on false with
        | true => rfl
        | false =>
          exfalso
          have hmem : e.on ∈ unl ops listed ∨ listed.getD e.on true = true := by
            cases hl2 : listed.getD e.on true with
            | true => exact .inr rfl
            | false => exact .inl (List.mem_filter.2 ⟨List.mem_range.2 (by omega), by rw [hl2]; rfl⟩)
          rw [hu] at hmem hsort
          rcases hmem with hmem | hmem
          · rcases List.mem_cons.1 hmem with h | h
            · omega
            · have := (List.pairwise_cons.1 hsort).1 _ h; omega
          · -- then it lies outside
            rw [Array.getD_eq_getD_getElem?] at hl hmem
            have hout : listed[e.on]? = none := by
              cases hx : listed[e.on]? with
              | none => rfl
              | some b => rw [hx] at hl hmem; simp at hl hmem; rw [hl] at hmem; cases hmem
            have hi2 : listed.getD i true = true := by
              rw [Array.getElem?_eq_none_iff] at hout
              rw [Array.getD_eq_getD_getElem?, Array.getElem?_eq_none (by omega)]; rfl
            have := (List.mem_filter.1 hi).2
            rw [hi2] at this; cases this
      rw [hr] at this; simp at this
  intro fuel
  induction fuel with
  | zero =>
    intro listed σ g a w hsz hf hcl hv S hkp had
    have hnil : unl ops listed = [] := List.eq_nil_of_length_eq_zero (by omega)
    refine ⟨?_, ?_⟩
    · cases hr : Region.ready .any ops listed with
      | nil => rfl
      | cons i l =>
        have := (ready_iff (i := i) (ops := ops) (listed := listed)).1 (by rw [hr]; exact List.mem_cons_self)
        rw [hnil] at this; simp at this
    · rw [hnil] at hv
      exact hQ σ hv g a w S hkp had
  | succ fuel ih =>
    intro listed σ g a w hsz hf hcl hv S hkp had
    refine ⟨fun hr => ?_, fun i hi => ?_⟩
    · have hnil := stuck listed hr
      rw [hnil] at hv
      exact hQ σ hv g a w S hkp had
    · obtain ⟨hu, oi, hoi, hed⟩ := ready_iff.1 hi
      have hil : i < ops.size := List.mem_range.1 (List.mem_filter.1 hu).1
      have hsort : (unl ops listed).Pairwise (· < ·) := List.Pairwise.filter _ List.pairwise_lt_range
      obtain ⟨l1, l2, hl⟩ := List.append_of_mem hu
      rw [hl] at hsort hv
      have hlt : ∀ p ∈ l1, p < i := fun p hp => (List.pairwise_append.1 hsort).2.2 p hp i List.mem_cons_self
      have hgt : ∀ p ∈ l2, i < p := fun p hp => (List.pairwise_cons.1 (List.pairwise_append.1 hsort).2.1).1 p hp
      have hset : unl ops (listed.setIfInBounds i true) = l1 ++ l2 := by
        rw [unl_set hsz, hl, List.filter_append, List.filter_cons]
        rw [if_neg (by simp), List.filter_eq_self.2 fun p hp => by have := hlt p hp; simp; omega, List.filter_eq_self.2 fun p hp => by have := hgt p hp; simp; omega]
      have bits : ∀ p ∈ l1, ∀ m, (masks ops.toList [])[i]? = some m → m.testBit p = false := by
        intro p hp m hm
        cases hb : m.testBit p with
        | false => rfl
        | true =>
          exfalso
          have := masks_bits (S := fun k => listed.getD k false = true) (p := p) (ops := ops) (fun k o ho hS => hcl k o ho hS) ops.toList [] (fun j => by simp) (fun k o m _ hm => by simp at hm) i oi m hoi hm hed hb
          have hpu : p ∈ unl ops listed := by rw [hl]; exact List.mem_append.2 (.inl hp)
          have h2 := (List.mem_filter.1 hpu).2
          rw [Array.getD_eq_getD_getElem?] at this h2
          cases hx : listed[p]? with
          | none => rw [hx] at this; simp at this
          | some b => rw [hx] at this h2; simp at this h2; rw [this] at h2; cases h2
      have hfront := vcL_front hoi hE (R := LogOk (masks ops.toList [])) LogOk.sub hL l1 σ (fun p hp => ⟨fun log hlog => hlog.no (hlt p hp) (bits p hp), fun op hop => ?_⟩) hv
      · refine vcL_op hok hD hfront S hkp had fun σ' g' a' w' hv' S' hkp' had' => ?_
        refine ih (listed.setIfInBounds i true) σ' g' a' w' (by simpa using hsz) ?_ ?_ ?_ S' hkp' had'
        · rw [hset]
          rw [hl] at hf
          simp only [List.length_append, List.length_cons] at hf ⊢
          omega
        · intro k o hk hlk e he hb
          rw [getD_set] at hlk ⊢
          split at hlk
          · rename_i hki
            rw [hki.1, hoi] at hk
            simp only [Option.some.injEq] at hk; subst hk
            have := hed e he hb
            split
            · rfl
            · exact this
          · have := hcl k o hk hlk e he hb
            split
            · rfl
            · exact this
        · rw [hset]; exact hv'
      · simp only [tmpsOk, List.all_eq_true] at hT
        have h1 := hT i (List.mem_range.2 hil) p (List.mem_range.2 (hlt p hp))
        rw [hop, hoi] at h1
        cases hm : (masks ops.toList [])[i]? with
        | none => rw [hm] at h1; simp at h1
        | some m =>
          rw [hm] at h1
          simp only [Bool.or_eq_true, Bool.not_eq_true'] at h1
          rcases h1 with h | h
          · exact h
          · rw [bits p hp m hm] at h; cases h

theorem Sim.drew (S : Sim P nt B w0 h0 g σ a w) : Sim P nt B w0 h0 g σ a { w with drawn := w.drawn + 1 } := by
  refine { S with obj := fun L o h => ?_, below := ?_, hw := S.hw, bs := S.bs }
  · have := S.obj L o h
    cases o <;> exact this
  · exact S.below.drew

theorem vcOps_draw (hok : OkAll P Γ) {K : St → Prop} {D : List Nat} {a0 : Act} (hD : ∀ (j : Nat) (o : Oper), ops[j]? = some o → ∀ t, o.dst = some t → t ∈ D) (hkp : Kp D a0 a) (hm : P.follows .mixedOrders = true) (hlow : lowOk ops = true) (hT : tmpsOk ops (masks ops.toList []) = true) (hE : ∀ σ τ, Eqv σ τ → K σ → K τ)
    (h : vcOps P Γ nt ops 0 ops.toList (fun σ' => match logOk (masks ops.toList []) σ'.log with
      | true => K σ'
      | false => False) σ) (S : Sim P nt B w0 h0 g σ a w)
    (hQ : ∀ σ', K σ' → ∀ g' a' w', Sim P nt B w0 h0 g' σ' a' w' → Kp D a0 a' → a'.defers = a.defers → Q .normal a' w') {id : Nat} : (Code.region id ops true).wpIn (FR r) n P Q a w := by
  refine wpIn_region_any hm ?_
  have hE' : ∀ σ τ : St, Eqv σ τ → (match logOk (masks ops.toList []) σ.log with | true => K σ | false => False) → (match logOk (masks ops.toList []) τ.log with | true => K τ | false => False) := by
    intro σ τ he hσ
    split at hσ
    · rename_i hl
      have : LogOk (masks ops.toList []) τ.log := LogOk.sub _ _ (fun x hx => (he.log x).2 hx) hl
      rw [show logOk (masks ops.toList []) τ.log = true from this]
      exact hE σ τ he hσ
    · exact hσ.elim
  have hun : unl ops (Array.replicate ops.size false) = List.range ops.size := by
    unfold unl
    refine List.filter_eq_self.2 fun k hk => ?_
    have := List.mem_range.1 hk
    simp [Array.getD_eq_getD_getElem?, this]
  refine vcL_any hok hD (K := fun σ' => match logOk (masks ops.toList []) σ'.log with | true => K σ' | false => False) hE' hlow hT (fun σ hσ => ?_) (fun σ' hσ => ?_) ops.size _ σ g a _ (by simp) ?_ ?_ ?_ S.drew hkp rfl
  · split at hσ
    · assumption
    · exact hσ.elim
  · split at hσ
    · exact hQ σ' hσ
    · exact hσ.elim
  · rw [hun]; simp
  · intro k o _ hk
    rw [Array.getD_eq_getD_getElem?] at hk
    by_cases hks : k < ops.size
    · simp [hks] at hk
    · rw [Array.getElem?_eq_none (by simp; omega)] at hk; simp at hk
  · rw [hun]
    have := vcL_of_ops hE' ops.toList 0 σ (fun j => by simp) h
    rw [List.range_eq_range']
    simpa using this
end
end Go.Pm
namespace Go.Pm
variable [DrawZ]
open Go.RowKit (Below)

def FleC (h h' : Fz) : Prop := ∀ b o, h b = some o → (∃ C ty fr, o = .fz (.cells C ty fr)) → h' b = some o
theorem Fle.c {h h' : Fz} (hl : Fle h h') : FleC h h' := fun b o hb _ => hl b o hb

section
variable {P : Program} {Γ : Ctrs} {nt B : Nat} {w0 : World} {h0 : Fz} {g : Gh} {σ : St} {a : Act} {w : World} {r : Option Nat} {n i : Nat} {Q : Exit → Act → World → Prop}

abbrev Gh.re (g : Gh) (h : Fz) : Gh := ⟨h, g.bk, g.sv, g.iv⟩

theorem clR_re {h : Fz} (hl : FleC g.h h) {c : Cl} {x : Value} (hc : clR g c x) : clR (g.re h) c x := by
  cases c with
  | p v => exact Rep.mono' hl hc
  | clo f caps => obtain ⟨cv, e, hr⟩ := hc; exact ⟨cv, e, capR_mono (fun _ _ hp => Rep.mono' hl hp) (fun _ _ => rfl) hr⟩
  | _ => exact hc
theorem rl_re {h : Fz} (hl : FleC g.h h) : ∀ {cs : List Cl} {vs : List Value}, RL (clR g) cs vs → RL (clR (g.re h)) cs vs := fun hc => hc.mono fun _ _ => clR_re hl
theorem d1R_re {h : Fz} (hl : FleC g.h h) {d : D1} {x : Value} (hd : d1R g d x) : d1R (g.re h) d x := by
  cases d with
  | c y => exact clR_re hl hd
  | agg cs => obtain ⟨vs, rfl, hr⟩ := hd; exact ⟨vs, rfl, rl_re hl hr⟩
theorem dvR_re {h : Fz} (hl : FleC g.h h) {d : DV} {x : Value} (hd : dvR g d x) : dvR (g.re h) d x := by
  cases d with
  | one y => exact d1R_re hl hd
  | tup ds => obtain ⟨vs, rfl, hr⟩ := hd; exact ⟨vs, rfl, hr.mono fun _ _ => d1R_re hl⟩
theorem aoR_re {h : Fz} (hl : FleC g.h h) {L : Nat} {o : AO} (ho : aoR P g w B L o) : aoR P (g.re h) w B L o := by
  cases o with
  | box ty cs => obtain ⟨C, hC, hr⟩ := ho; exact ⟨C, hC, rl_re hl hr⟩
  | fbox cs => obtain ⟨C, ty, fr, hC, hr⟩ := ho; exact ⟨C, ty, fr, hl _ _ hC ⟨_, _, _, rfl⟩, hr.mono fun _ _ => Rep.mono' hl⟩
  | vec e s b n get => obtain ⟨h1, h2, xs, hx, hr⟩ := ho; exact ⟨h1, h2, xs, hx, fun i hi => (hr i hi).mono fun _ _ => Rep.mono' hl⟩
  | fvec s n get => exact ⟨Rep.mono' hl ho.1, ho.2⟩
  | vv te bb e s b n ln get =>
    obtain ⟨h1, h2, h3, h4, h5, h6⟩ := ho
    exact ⟨h1, h2, h3, h4, fun i hi => by obtain ⟨h7, h70, xs, hx, hr⟩ := h5 i hi; exact ⟨h7, h70, xs, hx, fun j hj => (hr j hj).mono fun _ _ => Rep.mono' hl⟩, h6⟩
  | vt te bb e s b n ln get o =>
    obtain ⟨h1, h2, h3, h4, h41, h42, h5, h6⟩ := ho
    exact ⟨h1, h2, h3, h4, h41, h42, fun i hi ho => by obtain ⟨h7, h70, xs, hx, hr⟩ := h5 i hi ho; exact ⟨h7, h70, xs, hx, fun j hj => (hr j hj).mono fun _ _ => Rep.mono' hl⟩, h6⟩
  | mo kt vt q n F => exact ho
  | gone => trivial

def Fz.add (h : Fz) (b : Nat) (o : Obj) : Fz := fun k => if k = b then some (.fz o) else h k
def Fz.del (h : Fz) (b : Nat) : Fz := fun k => if k = b then none else h k
theorem Fz.add_same {h : Fz} {b : Nat} {o : Obj} : h.add b o b = some (.fz o) := if_pos rfl
theorem Fz.add_other {h : Fz} {b k : Nat} {o : Obj} (hk : k ≠ b) : h.add b o k = h k := if_neg hk
theorem Fz.del_same {h : Fz} {b : Nat} : h.del b b = none := if_pos rfl
theorem Fz.del_other {h : Fz} {b k : Nat} (hk : k ≠ b) : h.del b k = h k := if_neg hk
theorem Fz.le_add {h : Fz} {b : Nat} {o : Obj} (hb : h b = none) : Fle h (h.add b o) := fun k x hk => by
  rw [Fz.add_other (fun e => by subst e; rw [hb] at hk; cases hk)]; exact hk

theorem Sim.hide (S : Sim P nt B w0 h0 g σ a w) {b : Nat} {o : Obj} (hb : g.h b = none) (hw : w.heap[b]? = some o) (hB : B ≤ b) (hno : ∀ L o, lk σ.objs L = some o → ¬ obk g L o b) :
    Sim P nt B w0 (h0.add b o) (g.re (g.h.add b o)) σ a w := by
  have hle := Fz.le_add (o := o) hb
  have h0b : h0 b = none := by
    cases h : h0 b with
    | none => rfl
    | some x => rw [S.le0 b x h] at hb; cases hb
  refine ⟨S.dfr.mono hle, S.size, fun t d ht => dvR_re hle.c (S.env t d ht), fun L x hL => aoR_re hle.c (S.obj L x hL), fun L x k hL hk => ?_, S.sep, ?_, ?_, ?_, ?_, S.bs, S.clE, S.clO⟩
  · obtain ⟨h1, h2⟩ := S.own L x k hL hk
    refine ⟨h1, ?_⟩
    show g.h.add b o k = none
    rw [Fz.add_other (fun e => hno L x hL (by rw [← e]; exact hk))]; exact h2
  · intro k x hk
    by_cases h : k = b
    · subst h
      have hk : g.h.add k o k = some x := hk
      rw [Fz.add_same] at hk; simp only [Option.some.injEq] at hk; subst hk
      exact ⟨o, hw, rfl⟩
    · have hk : g.h.add b o k = some x := hk
      rw [Fz.add_other h] at hk; exact S.hw k x hk
  · intro k x hk
    show g.h.add b o k = some x
    by_cases h : k = b
    · subst h; rw [Fz.add_same] at hk ⊢; exact hk
    · rw [Fz.add_other h] at hk ⊢; exact S.le0 k x hk
  · intro k x hk
    have hk : g.h.add b o k = some x := hk
    by_cases h : k = b
    · exact .inr (h ▸ hB)
    · rw [Fz.add_other h] at hk ⊢; exact S.hn k x hk
  · exact ⟨S.below.os, S.below.tape, S.below.output, S.below.size, S.below.drawn, fun k hk => S.below.block k hk⟩

theorem Sim.unhide {b : Nat} {o : Obj} (S : Sim P nt B w0 (h0.add b o) g σ a w) (hB : B ≤ b) (h0b : h0 b = none) (hc : o.isCells = false) (hm : ∀ ds, o ≠ .deferred ds) :
    g.h b = some (.fz o) ∧ (∀ L x, lk σ.objs L = some x → ¬ obk g L x b) ∧ w.heap[b]? = some o ∧ Sim P nt B w0 h0 (g.re (g.h.del b)) σ a w := by
  have hb : g.h b = some (.fz o) := S.le0 b _ Fz.add_same
  have hl : FleC g.h (g.h.del b) := fun k x hk hx => by
    rw [Fz.del_other]; exact hk
    intro e; subst e; rw [hb] at hk; simp only [Option.some.injEq] at hk; subst hk
    obtain ⟨C, ty, fr, hx⟩ := hx
    cases hx; cases hc
  have hwb : w.heap[b]? = some o := S.hw.fz hb
  refine ⟨hb, (fun L x hL hk => by (have := (S.own L x b hL hk).2; rw [hb] at this; cases this)), hwb, ?_⟩
  refine ⟨?_, S.size, fun t d ht => dvR_re hl (S.env t d ht), fun L x hL => aoR_re hl (S.obj L x hL), fun L x k hL hk => ?_, S.sep, ?_, ?_, ?_, ?_, S.bs, S.clE, S.clO⟩
  · obtain ⟨Ds, h1, h2, h3, h4⟩ := S.dfr
    refine ⟨Ds, h1, h2, fun D hD => ⟨(h3 D hD).1, ?_⟩, h4⟩
    show g.h.del b D = _
    rw [Fz.del_other]; exact (h3 D hD).2
    intro e; subst e
    have := (h3 D hD).2
    rw [hb] at this; simp only [Option.some.injEq, FzO.fz.injEq] at this
    exact hm _ this
  · obtain ⟨h1, h2⟩ := S.own L x k hL hk
    refine ⟨h1, ?_⟩
    show g.h.del b k = none
    unfold Fz.del
    split
    · rfl
    · exact h2
  · intro k x hk
    have hk : g.h.del b k = some x := hk
    unfold Fz.del at hk
    split at hk
    · cases hk
    · exact S.hw k x hk
  · intro k x hk
    have hkb : k ≠ b := fun e => by subst e; rw [h0b] at hk; cases hk
    show g.h.del b k = some x
    rw [Fz.del_other hkb]
    exact S.le0 k x (by rw [Fz.add_other hkb]; exact hk)
  · intro k x hk
    have hk : g.h.del b k = some x := hk
    by_cases h : k = b
    · exact .inr (h ▸ hB)
    · rw [Fz.del_other h] at hk
      rcases S.hn k x hk with h1 | h1
      · rw [Fz.add_other h] at h1; exact .inl h1
      · exact .inr h1
  · exact ⟨S.below.os, S.below.tape, S.below.output, S.below.size, S.below.drawn, fun k hk => S.below.block k hk⟩

theorem Sim.putObj (S : Sim P nt B w0 h0 g σ a w) {b : Nat} (o : Obj) (hb : g.h b = none) (hB : B ≤ b) (hno : ∀ L x, lk σ.objs L = some x → ¬ obk g L x b) : Sim P nt B w0 h0 g σ a (w.putObj b o) := by
  have hne : ∀ k, k ≠ b → (w.putObj b o).heap[k]? = w.heap[k]? := fun k hk => World.putObj_heap_other hk
  refine S.change (g' := g) (objs' := σ.objs) (fun L _ _ => LSame.refl g L) (fun _ _ h => h) (S.hw.same fun k x hk => hne k fun e => by subst e; rw [hb] at hk; cases hk) (fun _ _ h => .inl h)
    ⟨rfl, rfl, rfl, by simp, Nat.le_refl _, fun k hk => hne k (by omega)⟩ ?_ S.own S.sep (fun L o h => ⟨o, h⟩) S.clO
  intro L x hL
  exact aoR_same (S.obj L x hL) (LSame.refl g L) (fun M _ => LSame.refl g M) (fun _ _ h => h) fun k hk => hne k fun e => by subst e; exact hno L x hL hk

theorem Sim.act (S : Sim P nt B w0 h0 g σ a w) {a' : Act} (hd : Marks P B g.h a'.defers) (hs : nt ≤ a'.tmps.size) (he : ∀ t d, lk σ.env t = some d → dvR g d (a'.tmps.getD t undef)) : Sim P nt B w0 h0 g σ a' w :=
  ⟨hd, hs, he, S.obj, S.own, S.sep, S.hw, S.le0, S.hn, S.below, S.bs, S.clE, S.clO⟩

theorem Sim.envs (S : Sim P nt B w0 h0 g σ a w) {env : List (Nat × DV)} (he : ∀ t d, lk env t = some d → dvR g d (a.tmps.getD t undef)) (hl : ∀ t d, lk env t = some d → ∀ L ∈ dvLab d, ∃ o, lk σ.objs L = some o)
    (l : List (Nat × Nat × Nat)) : Sim P nt B w0 h0 g ⟨env, σ.objs, l⟩ a w :=
  ⟨S.dfr, S.size, he, S.obj, S.own, S.sep, S.hw, S.le0, S.hn, S.below, S.bs, hl, S.clO⟩

theorem fold_size : ∀ (l : List (Nat × Value)) (t : Array Value), (l.foldl (fun t (p, v) => t.setIfInBounds p v) t).size = t.size
  | [], t => rfl
  | (p, v) :: l, t => by rw [List.foldl_cons, fold_size l]; simp
theorem fold_other : ∀ (l : List (Nat × Value)) (t : Array Value) (k : Nat), (∀ x ∈ l, x.1 ≠ k) → (l.foldl (fun t (p, v) => t.setIfInBounds p v) t).getD k undef = t.getD k undef
  | [], t, k, _ => rfl
  | (p, v) :: l, t, k, h => by
    rw [List.foldl_cons, fold_other l _ k fun x hx => h x (List.mem_cons_of_mem _ hx)]
    have hp : p ≠ k := h (p, v) List.mem_cons_self
    simp [Array.getD_eq_getD_getElem?, Array.getElem?_setIfInBounds_ne hp]

theorem psEnv_R (nt0 : Nat) : ∀ (ps : List Nat) (ys : List PA) (us : List Value) (e env : List (Nat × DV)) (t : Array Value), psEnv ps ys e = some env → RL (paR g.h) ys us → (∀ p ∈ ps, p < t.size) →
    (∀ k d, lk e k = some d → dvR g d (t.getD k undef)) →
    us.length = ps.length ∧ ∀ k d, lk env k = some d → dvR g d (((ps.zip us).foldl (fun t (p, v) => t.setIfInBounds p v) t).getD k undef)
  | [], [], us, e, env, t, h, hr, _, he => by
    simp only [psEnv, Option.some.injEq] at h; subst h
    cases us with
    | nil => exact ⟨rfl, he⟩
    | cons => exact hr.elim
  | p :: ps, y :: ys, [], e, env, t, h, hr, _, he => hr.elim
  | p :: ps, y :: ys, u :: us, e, env, t, h, hr, hp, he => by
    simp only [psEnv] at h
    have hlt := hp p List.mem_cons_self
    obtain ⟨h1, h2⟩ := psEnv_R nt0 ps ys us _ env (t.setIfInBounds p u) h hr.2 (fun q hq => by have := hp q (List.mem_cons_of_mem _ hq); simpa using this) (fun k d hk => by
      rw [lk_cons] at hk
      split at hk
      · rename_i e1
        simp only [Option.some.injEq] at hk; subst hk; subst e1
        rw [show (t.setIfInBounds p u).getD p undef = u by simp [Array.getD_eq_getD_getElem?, hlt]]
        exact paD_R hr.1
      · rename_i e1
        have := he k d hk
        rw [show (t.setIfInBounds p u).getD k undef = t.getD k undef by simp [Array.getD_eq_getD_getElem?, Array.getElem?_setIfInBounds_ne e1]]
        exact this)
    exact ⟨by simp [h1], h2⟩
  | [], _ :: _, _, _, _, _, h, _, _, _ => by simp [psEnv] at h
  | _ :: _, [], _, _, _, _, h, _, _, _ => by simp [psEnv] at h
theorem psEnv_lab : ∀ (ps : List Nat) (ys : List PA) (e env : List (Nat × DV)), psEnv ps ys e = some env → ∀ k d, lk env k = some d → lk e k = some d ∨ dvLab d = []
  | [], [], e, env, h, k, d, hk => by simp only [psEnv, Option.some.injEq] at h; subst h; exact .inl hk
  | p :: ps, y :: ys, e, env, h, k, d, hk => by
    simp only [psEnv] at h
    rcases psEnv_lab ps ys _ env h k d hk with h1 | h1
    · rw [lk_cons] at h1
      split at h1
      · simp only [Option.some.injEq] at h1; subst h1; exact .inr (paD_lab y)
      · exact .inl h1
    · exact .inr h1
  | [], _ :: _, _, _, h, _, _, _ => by simp [psEnv] at h
  | _ :: _, [], _, _, h, _, _, _ => by simp [psEnv] at h

theorem Sim.up (S : Sim P nt B w0 h0 g σ a w) : Sim P nt B w0 g.h g σ a w :=
  ⟨S.dfr, S.size, S.env, S.obj, S.own, S.sep, S.hw, fun _ _ h => h, fun _ _ h => .inl h,
    ⟨S.below.os, S.below.tape, S.below.output, S.below.size, S.below.drawn, fun k hk => S.below.block k hk⟩, S.bs, S.clE, S.clO⟩
theorem Sim.down {h1 : Fz} (S : Sim P nt B w0 h1 g σ a w) (hl : Fle h0 h1) (hn : ∀ b o, h1 b = some o → h0 b = some o ∨ B ≤ b) : Sim P nt B w0 h0 g σ a w :=
  ⟨S.dfr, S.size, S.env, S.obj, S.own, S.sep, S.hw, fun b o h => S.le0 b o (hl b o h), fun b o h => by
      rcases S.hn b o h with h | h
      · exact hn b o h
      · exact .inr h,
    ⟨S.below.os, S.below.tape, S.below.output, S.below.size, S.below.drawn, fun k hk => S.below.block k hk⟩, S.bs, S.clE, S.clO⟩

theorem canon0_env {k : Keep} {σ s : St} (h : canon0 P k σ = some s) : ∀ t d, lk s.env t = some d → t ∈ k.tmps := by
  unfold canon0 at h
  split at h
  · cases h
  split at h
  · cases h
  split at h
  · cases h
  simp only [] at h
  split at h
  · simp only [Option.some.injEq] at h
    subst h
    intro t d ht
    obtain ⟨_, _, _, h1⟩ := lk_restr ht
    exact h1
  · cases h
theorem nf1_env {k a b e : Nat} {σ : St} : ∀ t d, lk (nf1 P k a b e σ).env t = some d → ∃ d', lk σ.env t = some d' := by
  have key : ∀ x y, lk σ.env a = some y → ∀ t d, lk ((a, x) :: σ.env) t = some d → ∃ d', lk σ.env t = some d' := by
    intro x y hy t d ht
    rw [lk_cons] at ht
    split at ht
    · rename_i e; exact ⟨y, e ▸ hy⟩
    · exact ⟨d, ht⟩
  unfold nf1
  repeat' split
  all_goals first
    | exact fun t d ht => ⟨d, ht⟩
    | exact key _ _ (by assumption)
theorem coerceN_env : ∀ {l : List (Nat × Nat × Nat × Nat)} {σ : St}, ∀ t d, lk (coerceN P l σ).env t = some d → ∃ d', lk σ.env t = some d'
  | [], _, _, d, ht => ⟨d, ht⟩
  | (_, _, _, _) :: l, _, t, d, ht => by
    obtain ⟨d', h2⟩ := coerceN_env (l := l) t d ht
    exact nf1_env t d' h2
theorem canon_env {k : Keep} {σ s : St} (h : canon P k σ = some s) : ∀ t d, lk s.env t = some d → t ∈ k.tmps := by
  unfold canon at h
  split at h
  · split at h
    · rename_i s1 h1
      intro t d ht
      cases h
      obtain ⟨d', h2⟩ := coerceN_env t d ht
      exact canon0_env h1 t d' h2
    · cases h
  · cases h

def Rnd (r : Option Nat) (h0 : Fz) : Prop := ∀ l, r = some l → ∃ rec : Loop, h0 l = some (.fz (.loop rec))
theorem Rnd.none (h0 : Fz) : Rnd none h0 := fun l h => by cases h

theorem enterLoop_any (S : Sim P nt B w0 h0 g σ a w) (hR : Rnd r h0) (fn : FuncId) (ps : Array Tmp) (x y : Code) :
    ∃ (l : Nat) (mark : List Deferred) (w1 : World) (d : Nat) (h1 : Fz), (Instr.enterLoop fn a.tmps ps x y r).run P w = .ok (l, mark) w1 ∧ w.heap.size ≤ l ∧
      w1.heap[l]? = some (.loop { state := .ready, pending := none, fn, tmps := a.tmps, params := ps, assign := x, body := y, defers := d }) ∧ Fle g.h h1 ∧ h1 l = none ∧
      Sim P nt B w0 h0 (g.re h1) σ { a with defers := mark ++ a.defers } w1 := by
  have hnone : ∀ k, w.heap.size ≤ k → g.h k = none := fun k hk => by
    cases h : g.h k with
    | none => rfl
    | some x => exact absurd (fz_lt S.hw h) (by omega)
  cases r with
  | none =>
    have hb0 : g.h w.heap.size = none := hnone _ (Nat.le_refl _)
    have hw1 : ((w.alloc (.deferred (some []))).alloc (.loop { state := .ready, pending := none, fn, tmps := a.tmps, params := ps, assign := x, body := y, defers := w.heap.size })).heap[w.heap.size]? = some (.deferred (some [])) := by
      exact (Below.heap_alloc _ _ _ (by simp)).trans (World.alloc_heap_new w _)
    have hbel : Below w.heap.size w ((w.alloc (.deferred (some []))).alloc (.loop { state := .ready, pending := none, fn, tmps := a.tmps, params := ps, assign := x, body := y, defers := w.heap.size })) :=
      ((Below.refl _ w).alloc (Nat.le_refl _) _).alloc (by simp) _
    have S1 := S.world (h' := g.h.add w.heap.size (.deferred (some []))) (Fz.le_add hb0) (fun k z hk => by
        by_cases h : k = w.heap.size
        · subst h; rw [Fz.add_same] at hk; simp only [Option.some.injEq] at hk; subst hk; exact ⟨_, hw1, rfl⟩
        · rw [Fz.add_other h] at hk
          obtain ⟨o, h1, h2⟩ := S.hw k z hk
          exact ⟨o, by rw [hbel.block k (S.hw.lt hk)]; exact h1, h2⟩)
      (fun k z hk => by
        by_cases h : k = w.heap.size
        · exact .inr (by omega)
        · rw [Fz.add_other h] at hk; exact .inl hk) (.of ⟨hbel, Nat.le_refl _⟩)
    refine ⟨w.heap.size + 1, [{ target := .collected w.heap.size, args := #[] }], _, w.heap.size, g.h.add w.heap.size (.deferred (some [])), run_enterLoop_outer fn a.tmps ps x y, by omega, ?_, Fz.le_add hb0, ?_, ?_⟩
    · have := World.alloc_heap_new (w.alloc (.deferred (some []))) (.loop { state := .ready, pending := none, fn, tmps := a.tmps, params := ps, assign := x, body := y, defers := w.heap.size })
      rwa [World.size_alloc] at this
    · rw [Fz.add_other (by omega)]; exact hnone _ (by omega)
    · refine S1.act ?_ S1.size S1.env
      obtain ⟨Ds, h1, h2, h3, h4⟩ := S.dfr
      refine ⟨.inl w.heap.size :: Ds, List.nodup_cons.2 ⟨fun hm => ?_, h1⟩, by simp [h2, deD], fun D hD => ?_, fun d hd => ?_⟩
      · have := fz_lt S.hw (h3 _ (of_lefts hm)).2; omega
      rotate_left
      · rcases List.mem_cons.1 hd with e | hd
        · cases e
        · exact h4 d hd
      · rcases List.mem_cons.1 hD with e | hD
        · cases e; exact ⟨S.bs, Fz.add_same⟩
        · exact ⟨(h3 D hD).1, Fz.le_add hb0 _ _ (h3 D hD).2⟩
  | some l0 =>
    obtain ⟨rec, hrec⟩ := hR l0 rfl
    have hl0 : w.heap[l0]? = some (.loop rec) := S.hw.fz (S.le0 _ _ hrec)
    have hbel : Below w.heap.size w (w.alloc (.loop { state := .ready, pending := none, fn, tmps := a.tmps, params := ps, assign := x, body := y, defers := rec.defers })) := (Below.refl _ w).alloc (Nat.le_refl _) _
    have S1 := S.world (h' := g.h) (fun _ _ h => h) (S.hw.same fun k z hk => hbel.block k (S.hw.lt hk)) (fun _ _ h => .inl h) (.of ⟨hbel, Nat.le_refl _⟩)
    exact ⟨w.heap.size, [], _, rec.defers, g.h, run_enterLoop_inner hl0 fn a.tmps ps x y, Nat.le_refl _, World.alloc_heap_new w _, fun _ _ h => h, hnone _ (Nat.le_refl _), S1⟩
end
end Go.Pm
namespace Go.Pm
variable [DrawZ]
open Go.RowKit (Below)

theorem coerceT_eqv {P : Program} : ∀ (l : List (Nat × Nat × Nat)) (σ τ : St), Eqv σ τ → (coerceT P l σ = none ∧ coerceT P l τ = none) ∨ ∃ σ' τ', coerceT P l σ = some σ' ∧ coerceT P l τ = some τ' ∧ Eqv σ' τ'
  | [], σ, τ, h => .inr ⟨σ, τ, rfl, rfl, h⟩
  | (t, L, e) :: r, σ, τ, h => by
    simp only [coerceT]
    rw [← h.env, ← h.objs]
    split
    · split
      · split
        · refine coerceT_eqv r _ _ ⟨fun s => ?_, fun s => ?_, h.log⟩
          · simp only [lk_cons, h.env]
          · simp only [lk_cons, h.objs]
        · exact .inl ⟨rfl, rfl⟩
      · exact .inl ⟨rfl, rfl⟩
    · exact coerceT_eqv r _ _ h
    · exact .inl ⟨rfl, rfl⟩
theorem coerceB_eqv {P : Program} : ∀ (l : List (Nat × Nat × Nat × Nat)) (σ τ : St), Eqv σ τ → (coerceB P l σ = none ∧ coerceB P l τ = none) ∨ ∃ σ' τ', coerceB P l σ = some σ' ∧ coerceB P l τ = some τ' ∧ Eqv σ' τ'
  | [], σ, τ, h => .inr ⟨σ, τ, rfl, rfl, h⟩
  | (B, k, L, e) :: r, σ, τ, h => by
    simp only [coerceB]
    rw [← h.objs, ← h.objs]
    split
    · split
      · split
        · split
          · refine coerceB_eqv r _ _ ⟨h.env, fun s => ?_, h.log⟩
            simp only [lk_cons, h.objs]
          · exact .inl ⟨rfl, rfl⟩
        · exact .inl ⟨rfl, rfl⟩
      · exact coerceB_eqv r _ _ h
      · exact .inl ⟨rfl, rfl⟩
    · exact .inl ⟨rfl, rfl⟩
theorem coerceV_eqv {P : Program} : ∀ (l : List (Nat × Nat × Nat × Nat × Nat)) (σ τ : St), Eqv σ τ → (coerceV P l σ = none ∧ coerceV P l τ = none) ∨ ∃ σ' τ', coerceV P l σ = some σ' ∧ coerceV P l τ = some τ' ∧ Eqv σ' τ'
  | [], σ, τ, h => .inr ⟨σ, τ, rfl, rfl, h⟩
  | (B, k, L, te, e) :: r, σ, τ, h => by
    simp only [coerceV]
    rw [← h.objs, ← h.objs]
    split
    · split
      · split
        · split
          · split
            · refine coerceV_eqv r _ _ ⟨h.env, fun s => ?_, h.log⟩
              simp only [lk_cons, h.objs]
            · exact .inl ⟨rfl, rfl⟩
          · exact .inl ⟨rfl, rfl⟩
        · exact .inl ⟨rfl, rfl⟩
      · exact coerceV_eqv r _ _ h
      · exact .inl ⟨rfl, rfl⟩
    · exact .inl ⟨rfl, rfl⟩
theorem coerceZ_eqv : ∀ (l : List Nat) (σ τ : St), Eqv σ τ → (coerceZ l σ = none ∧ coerceZ l τ = none) ∨ ∃ σ' τ', coerceZ l σ = some σ' ∧ coerceZ l τ = some τ' ∧ Eqv σ' τ'
  | [], σ, τ, h => .inr ⟨σ, τ, rfl, rfl, h⟩
  | t :: r, σ, τ, h => by
    have ho : lk σ.objs = lk τ.objs := funext h.objs
    simp only [coerceZ]
    rw [← h.env, ← ho]
    split
    · split
      · refine coerceZ_eqv r _ _ ⟨fun s => ?_, h.objs, h.log⟩
        simp only [lk_cons, h.env]
      · split
        · refine coerceZ_eqv r _ _ ⟨fun s => ?_, fun s => ?_, h.log⟩
          · simp only [lk_cons, h.env]
          · simp only [lk_append, h.objs]
        · exact .inl ⟨rfl, rfl⟩
    · exact .inl ⟨rfl, rfl⟩
theorem restr_eqv {α : Type} {f : α → α} {l l' : List (Nat × α)} (h : ∀ t, lk l t = lk l' t) : ∀ ks, restr f l ks = restr f l' ks
  | [] => rfl
  | t :: r => by simp only [restr, h, restr_eqv h r]
theorem yBox_eqv {ob ob' : Nat → Option AO} (h : ∀ t, ob t = ob' t) : ∀ ks, yBox ob ks = yBox ob' ks := by
  intro ks
  have : ob = ob' := funext h
  rw [this]
theorem vBox_eqv {ob ob' : Nat → Option AO} (h : ∀ t, ob t = ob' t) : ∀ ks, vBox ob ks = vBox ob' ks := by
  intro ks
  have : ob = ob' := funext h
  rw [this]
theorem canon0_eqv {P : Program} {k : Keep} {σ τ : St} (h : Eqv σ τ) : canon0 P k σ = canon0 P k τ := by
  unfold canon0
  rcases coerceT_eqv (P := P) k.coT σ τ h with ⟨h1, h2⟩ | ⟨σ1, τ1, h1, h2, h3⟩
  · rw [h1, h2]
  · rw [h1, h2]
    simp only
    rcases coerceB_eqv (P := P) k.coB σ1 τ1 h3 with ⟨h4, h5⟩ | ⟨σ2, τ2, h4, h5, h6⟩
    · rw [h4, h5]
    · rw [h4, h5]
      simp only
      rcases coerceV_eqv (P := P) k.coV σ2 τ2 h6 with ⟨h7, h8⟩ | ⟨σ3, τ3, h7, h8, h9⟩
      · rw [h7, h8]
      · rw [h7, h8]
        simp only
        rw [restr_eqv h9.env, show lk σ3.objs = lk τ3.objs from funext h9.objs]
        rw [restr_eqv h9.objs]
theorem coP1_eqv {σ τ : St} {n : Nat} (h : Eqv σ τ) : Eqv (coP1 σ n) (coP1 τ n) := by
  have ho : lk σ.objs = lk τ.objs := funext h.objs
  unfold coP1
  rw [← ho]
  repeat' split
  all_goals first
    | exact h
    | exact ⟨h.env, fun t => by simp only [List.singleton_append, lk_cons, h.objs], h.log⟩
theorem coP_eqv : ∀ (l : List Nat) {σ τ : St}, Eqv σ τ → Eqv (coP l σ) (coP l τ)
  | [], _, _, h => h
  | _ :: r, _, _, h => coP_eqv r (coP1_eqv h)
theorem canon_eqv {P : Program} {k : Keep} {σ τ : St} (h : Eqv σ τ) : canon P k σ = canon P k τ := by
  unfold canon
  have h1 : Eqv (frzK k.coF σ) (frzK k.coF τ) := ⟨h.env, fun t => by simp only [frzK, lk_append, h.objs, yBox_eqv h.objs, vBox_eqv h.objs], h.log⟩
  rcases coerceZ_eqv k.coZ _ _ (coP_eqv k.coF h1) with ⟨h2, h3⟩ | ⟨σ1, τ1, h2, h3, h4⟩
  · rw [h2, h3]
  · rw [h2, h3]; simp only; rw [canon0_eqv h4]

section
variable {P : Program} {Γ : Ctrs} {nt B : Nat} {w0 : World} {h0 : Fz} {r : Option Nat} {n : Nat}

theorem stepR_scope {b : Frame} {a : Act} {k : List Item} {cs : List Frame} {w : World} {c : Code} :
    step P (lone (b.atR a (.code (.scope c) :: k)) cs w) = .next (lone (b.atR a (.code c :: .inScope c :: k)) cs w) :=
  step_lone_go (by simp [stepG, stepG.exec, Frame.atR])
theorem stepR_inScope {b : Frame} {a : Act} {k : List Item} {cs : List Frame} {w : World} {c : Code} :
    step P (lone (b.atR a (.inScope c :: k)) cs w) = .next (lone (b.atR a k) cs w) :=
  step_lone_go (by simp [stepG, stepG.exec, Frame.atR])

theorem wpIn_scope {c : Code} {Q : Exit → Act → World → Prop} {a : Act} {w : World} {F : Fence} (h : c.wpIn F n P (Exit.noGoto Q) a w) : (Code.scope c).wpIn F n P Q a w := by
  intro b k cs hro hb hr
  obtain ⟨e, a₁, w₁, hq, harr⟩ := h b (.inScope c :: k) cs hro hb hr
  have h0 : (lone (b.atR a (.code (.scope c) :: k)) cs w).fenced P F := fenced_calm hb hr rfl
  cases e with
  | normal => exact ⟨.normal, a₁, w₁, hq, .head h0 stepR_scope (StepsIn.trans harr (.one (fenced_calm hb hr rfl) stepR_inScope))⟩
  | exit id =>
    refine ⟨.exit id, a₁, w₁, hq, fun k' hk => .head h0 stepR_scope (harr.1 k' (by simp [exitTo, hk])), fun hr' hk => ?_⟩
    obtain ⟨k₁, h1, h2⟩ := harr.2 hr' (by simp [exitTo, hk])
    exact ⟨k₁, h1, .head h0 stepR_scope h2⟩
  | goto l => exact hq.elim
  | ret => exact ⟨_, a₁, w₁, hq, .of_steps (.one h0 stepR_scope) harr⟩
  | panic ch => exact ⟨_, a₁, w₁, hq, .of_steps (.one h0 stepR_scope) harr⟩
  | outgrown => exact ⟨_, a₁, w₁, hq, .of_steps (b := b) (k := k) (cs := cs) (e := .outgrown) (.one h0 stepR_scope) harr⟩

def LoopX (F : Fence) (n : Nat) (P : Program) (c : Code) (Q : Exit → Act → World → Prop) (a : Act) (w : World) : Prop :=
  ∀ (b : Frame) (k : List Item) (cs : List Frame), b.roundOf = F.round → F.fn b.fn → F.room (cs.length + 1 + n) →
    ∃ e a' w', Q e a' w' ∧ ArrivesIn (Machine.fenced P F) P (lone (b.atR a (.code c :: .inLoop c :: k)) cs w) b k cs e a' w'

theorem loopX_start {F : Fence} {c : Code} {Q : Exit → Act → World → Prop} {a : Act} {w : World} (h : LoopX F n P c Q a w) : (Code.loop c).wpIn F n P Q a w := by
  intro b k cs hro hb hr
  obtain ⟨e, a', w', hq, harr⟩ := h b k cs hro hb hr
  exact ⟨e, a', w', hq, .of_steps (.one (fenced_calm hb hr rfl) stepR_loop) harr⟩

theorem loopX_round {F : Fence} {c : Code} {Q : Exit → Act → World → Prop} {a : Act} {w : World} (h : c.wpIn F n P (Exit.then (LoopX F n P c Q) Q) a w) : LoopX F n P c Q a w := by
  intro b k cs hro hb hr
  obtain ⟨e, a₁, w₁, hq, harr⟩ := h b (.inLoop c :: k) cs hro hb hr
  cases e with
  | normal =>
    obtain ⟨e₂, a₂, w₂, hq₂, harr₂⟩ := hq b k cs hro hb hr
    exact ⟨e₂, a₂, w₂, hq₂, .of_steps (StepsIn.trans harr (.one (fenced_calm hb hr rfl) stepR_inLoop)) harr₂⟩
  | exit id => exact ⟨_, a₁, w₁, hq, .pass (x := .inLoop c) rfl (fun _ _ => .inl (by simp)) harr⟩
  | goto l => exact ⟨_, a₁, w₁, hq, .pass (x := .inLoop c) rfl (fun _ _ => .inl (by simp)) harr⟩
  | ret => exact ⟨_, a₁, w₁, hq, .pass (x := .inLoop c) rfl (fun _ _ => .inl (by simp)) harr⟩
  | panic ch => exact ⟨_, a₁, w₁, hq, .pass (x := .inLoop c) rfl (fun _ _ => .inl (by simp)) harr⟩
  | outgrown => exact ⟨_, a₁, w₁, hq, .pass (x := .inLoop c) rfl (fun _ _ => .inl (by simp)) harr⟩

def PostR (P : Program) (nt B : Nat) (w0 : World) (h0 : Fz) (D : List Nat) (a0 : Act) (K : Exit → St → Prop) : Exit → Act → World → Prop :=
  fun e a' w' => ∃ g' σ', K e σ' ∧ Sim P nt B w0 h0 g' σ' a' w' ∧ Kp D a0 a'

def Snd (P : Program) (Γ : Ctrs) (ann : Ann) (B : Nat) (w0 : World) (c : Code) : Prop :=
  ∀ (r : Option Nat) (n : Nat) (h0 : Fz) (D : List Nat) (a0 : Act) (K : Exit → St → Prop) (σ : St) (g : Gh) (a : Act) (w : World), (∀ t ∈ dstC c, t ∈ D) → Rnd r h0 → vc P Γ ann c K σ →
    Sim P ann.nt B w0 h0 g σ a w → Kp D a0 a → c.wpIn (FR r) n P (PostR P ann.nt B w0 h0 D a0 K) a w

theorem mem_dstL : ∀ {l : List Oper} {j : Nat} {o : Oper} {t : Nat}, l[j]? = some o → o.dst = some t → t ∈ dstL l
  | [], j, o, t, h, _ => by simp at h
  | x :: l, j, o, t, h, hd => by
    cases j with
    | zero =>
      simp only [List.getElem?_cons_zero, Option.some.injEq] at h; subst h
      simp only [dstL, hd]; exact List.mem_cons_self
    | succ j =>
      have := mem_dstL (l := l) (j := j) (by simpa using h) hd
      simp only [dstL]; split
      · exact List.mem_cons_of_mem _ this
      · exact this

theorem reg_sound (hok : OkAll P Γ) (ann : Ann) {id : Nat} {ops : Array Oper} {draw : Bool} {K : St → Prop} {Q : Exit → Act → World → Prop} {D : List Nat} {a0 : Act} {σ : St} {g : Gh} {a : Act} {w : World}
    (hD : ∀ t ∈ dstL ops.toList, t ∈ D) (h : vcReg P Γ ann id ops draw K σ) (S : Sim P ann.nt B w0 h0 g σ a w) (hkp : Kp D a0 a)
    (hQ : ∀ g' σ' a' w', K σ' → Sim P ann.nt B w0 h0 g' σ' a' w' → Kp D a0 a' → a'.defers = a.defers → Q .normal a' w') : (Code.region id ops draw).wpIn (FR r) n P Q a w := by
  have hD' : ∀ (j : Nat) (o : Oper), ops[j]? = some o → ∀ t, o.dst = some t → t ∈ D := fun j o ho t ht => hD t (mem_dstL (by simpa using ho) ht)
  have hreg : ∀ σ', (match lk ann.reg id with | some k => (match canon P k σ' with | some s => K s | none => False) | none => K σ') → ∀ g' a' w', Sim P ann.nt B w0 h0 g' σ' a' w' → Kp D a0 a' → a'.defers = a.defers → Q .normal a' w' := by
    intro σ' h g' a' w' S hk' hdf
    split at h
    · split at h
      · rename_i s hs
        obtain ⟨g2, S2⟩ := canon_sound hs S
        exact hQ g2 s a' w' h S2 hk' hdf
      · exact h.elim
    · exact hQ g' σ' a' w' h S hk' hdf
  simp only [vcReg] at h
  cases draw with
  | false =>
    refine wpIn_region ?_
    exact vcOps_range hok hD' h (S.log _) hkp hreg
  | true =>
    simp only at h
    split at h
    · rename_i hc
      simp only [Bool.and_eq_true] at hc
      refine vcOps_draw (K := fun σ' => match lk ann.reg id with
        | some k => match canon P k σ' with
          | some s => K s
          | none => False
        | none => False) hok hD' hkp hc.1.1 hc.1.2 hc.2 (fun σ τ he hσ => ?_) h (S.log []) ?_
      · split at hσ
        · rename_i k hk
          rw [canon_eqv he] at hσ
          exact hσ
        · exact hσ.elim
      · intro σ' h g' a' w' S hk' hdf
        split at h
        · split at h
          · rename_i s hs
            obtain ⟨g2, S2⟩ := canon_sound hs S
            exact hQ g2 s a' w' h S2 hk' hdf
          · exact h.elim
        · exact h.elim
    · exact h.elim

def RGood (P : Program) (Γ : Ctrs) (ann : Ann) (x y : Code) (ps : List Nat) (k : Keep) (K : Exit → St → Prop) : List (List PA) → St → Prop
  | [], s => K .normal s
  | yv :: rest, s => match psEnv ps yv s.env with
    | some env => vc P Γ ann x (seqK (vc P Γ ann y (roundK P k (RGood P Γ ann x y ps k K rest) K)) fun _ _ => False) ⟨env, s.objs, []⟩
    | none => False

theorem range_sound (hok : OkAll P Γ) {ann : Ann} {f : Operand} {ps : Array Tmp} {x y : Code} (ihx : Snd P Γ ann B w0 x) (ihy : Snd P Γ ann B w0 y) : Snd P Γ ann B w0 (.rangeFunc f ps x y) := by
  intro r n h0 D a0 K σ g a w hD hR h S hkp
  simp only [vc] at h
  split at h
  · rename_i k hk
    split at h
    · rename_i s hs hdis
      simp only [Bool.and_eq_true] at hdis
      obtain ⟨hdis, hpnt⟩ := hdis
      split at h
      · rename_i gf caps hf
        split at h
        · rename_i ys hit
          have hgood : RGood P Γ ann x y ps.toList k K ys s := h (RGood P Γ ann x y ps.toList k K) (fun _ h => h) (fun _ _ _ h => h)
          obtain ⟨g1, S1⟩ := canon_sound hs S
          have hout : ∀ t ∈ k.tmps, t ∉ ps.toList ∧ t ∉ dstC x ++ dstC y := by
            intro t ht
            have h1 := List.all_eq_true.1 hdis t ht
            simp only [Bool.not_eq_true'] at h1
            have h2 : t ∉ ps.toList ++ (dstC x ++ dstC y) := by simpa using h1
            exact ⟨fun h => h2 (List.mem_append.2 (.inl h)), fun h => h2 (List.mem_append.2 (.inr h))⟩
          refine wpIn_rangeFunc fun fn _ => ?_
          obtain ⟨l, mark, w1, d, h1, hrun, hlw, hl1, hle1, hn1, S2⟩ := enterLoop_any S1 hR fn ps x y
          have hfn := pv_inv S1 hf
          generalize hfv : a.eval f = fvv at hfn
          cases hfn with
          | fn _ _ _ fv cv l1 l2 hf1 hc1 =>
            have e1 : fv = [] := List.eq_nil_of_length_eq_zero l1.symm
            subst e1
            let a1 : Act := { a with defers := mark ++ a.defers }
            let rec_ : LoopState → Option Code → Loop := fun st pe => { state := st, pending := pe, fn, tmps := a.tmps, params := ps, assign := x, body := y, defers := d }
            let J : List (List PA) → Fz → World → Prop := fun rest h W => ∃ s bk sv iv, RGood P Γ ann x y ps.toList k K rest s ∧ (∀ t d, lk s.env t = some d → t ∈ k.tmps) ∧ Sim P ann.nt B w0 h0 ⟨h, bk, sv, iv⟩ s a1 W ∧ h l = none ∧ B ≤ l ∧
              (∀ L o, lk s.objs L = some o → ¬ obk ⟨h, bk, sv, iv⟩ L o l) ∧ W.heap[l]? = some (.loop (rec_ .ready none))
            let Jx : List (List PA) → Fz → World → Prop := fun _ h W => ∃ s bk sv iv c, ((c = .ret ∧ K .ret s) ∨ ∃ id, c = .exit id ∧ K (.exit id) s) ∧ Sim P ann.nt B w0 h0 ⟨h, bk, sv, iv⟩ s a1 W ∧ h l = none ∧ B ≤ l ∧
              (∀ L o, lk s.objs L = some o → ¬ obk ⟨h, bk, sv, iv⟩ L o l) ∧ W.heap[l]? = some (.loop (rec_ .done (some c)))
            have keepl : ∀ {h h' : Fz} {W W' : World}, W.heap[l]? ≠ none → h l = none → (∀ b o, h' b = some o → h b = some o ∨ W.heap.size ≤ b) → Bel h W.heap.size W W' → h' l = none ∧ W'.heap[l]? = W.heap[l]? := by
              intro h h' W W' hW hl hn hb
              have hlt : l < W.heap.size := by
                cases hx : W.heap[l]? with
                | none => exact absurd hx hW
                | some o => exact (Array.getElem?_eq_some_iff.1 hx).1
              refine ⟨?_, hb.block l hlt⟩
              cases hx : h' l with
              | none => rfl
              | some o =>
                rcases hn l o hx with h3 | h3
                · rw [hl] at h3; cases h3
                · omega
            have hJ : JSt J := by
              rintro rest h W h' W' ⟨s, bk, sv, iv, hg, he, SJ, hl, hB, hno, hW⟩ hle hw' hn hb
              obtain ⟨k1, k2⟩ := keepl (by rw [hW]; simp) hl hn hb
              exact ⟨s, bk, sv, iv, hg, he, SJ.world hle hw' hn hb, k1, hB, hno, by rw [k2]; exact hW⟩
            have hJx : JSt Jx := by
              rintro rest h W h' W' ⟨s, bk, sv, iv, c, hc, SJ, hl, hB, hno, hW⟩ hle hw' hn hb
              obtain ⟨k1, k2⟩ := keepl (by rw [hW]; simp) hl hn hb
              exact ⟨s, bk, sv, iv, c, hc, SJ.world hle hw' hn hb, k1, hB, hno, by rw [k2]; exact hW⟩
            have hBl : B ≤ l := Nat.le_trans S1.bs hlw
            have h0l : ∀ {h : Fz} {bk sv iv} {s : St} {W : World}, Sim P ann.nt B w0 h0 ⟨h, bk, sv, iv⟩ s a1 W → h l = none → h0 l = none := fun SJ hl => by
              cases hx : h0 l with
              | none => rfl
              | some o => have := SJ.le0 l o hx; simp only [hl] at this; cases this
            have hno1 : ∀ L o, lk s.objs L = some o → ¬ obk (g1.re h1) L o l := fun L o ho hk => by
              have : obk g1 L o l := hk
              have := obk_lt (S1.obj L o ho) this
              omega
            have hstart := hok.it gf (caps.map .one) ys hit l J Jx w1 h1 cv hJ hJx ?_ ⟨s, g1.bk, g1.sv, g1.iv, hgood, canon_env hs, S2, hn1, hBl, hno1, hl1⟩ (rl_one ((rl_of l2 hc1).mono fun _ _ h => h.mono hle1)) S2.hw
            · obtain ⟨hcall, hseq⟩ := hstart
              refine ⟨l, mark, w1, { target := .fn (.func gf) cv.toArray, args := #[.func (.yield l) #[] #[]] }, w1, gf, (.func (.yield l) #[] #[] :: cv).toArray, w1, ?_, ?_, fun _ _ => trivial, ?_, fun h => by simp [FR] at h, (FR_calls hseq).mono ?_⟩
              · exact hrun
              · simp only [resolve, hfv]
                simp [go_sem]
              · simp only [invoke]
                rw [show (#[.func (.yield l) #[] #[]] ++ cv.toArray) = (.func (.yield l) #[] #[] :: cv).toArray by simp]
                exact run_callFunc hcall
              · rintro e W3 ⟨v, h3, rfl, hle3, hw3, (⟨s3, bk, sv, iv, hg3, he3, S3, hl3, hB3, hno3, hW3⟩ | ⟨_, s3, bk, sv, iv, c, hc, S3, hl3, hB3, hno3, hW3⟩)⟩
                · have S4 := S3.putObj (.loop { rec_ .ready none with state := .exhausted }) hl3 hB3 hno3
                  refine ⟨none, _, run_endLoop hW3 (by simp [rec_]), _, s3, hg3, S4, hkp.1, hkp.2.1, fun hr => absurd (hD rfS List.mem_cons_self) hr⟩
                · have S4 := S3.putObj (.loop { rec_ .done (some c) with state := .exhausted }) hl3 hB3 hno3
                  refine ⟨some c, _, run_endLoop hW3 (by simp [rec_]), ?_⟩
                  rcases hc with ⟨rfl, hc⟩ | ⟨id, rfl, hc⟩
                  · exact wpIn_ret ⟨_, s3, hc, S4, hkp.1, hkp.2.1, fun hr => absurd (hD rfS List.mem_cons_self) hr⟩
                  · exact wpIn_exit ⟨_, s3, hc, S4, hkp.1, hkp.2.1, fun hr => absurd (hD rfS List.mem_cons_self) hr⟩
            · -- one round
              rintro yv rest h W us ⟨s, bk, sv, iv, hg, hek, SJ, hl, _, hno, hW⟩ hus hHw n'
              simp only [RGood] at hg
              split at hg
              · rename_i env henv
                have hlt : l < W.heap.size := (Array.getElem?_eq_some_iff.1 hW).1
                have h0l' := h0l SJ hl
                have SJ2 := SJ.up.hide hl hW hBl hno
                have hle2 : Fle h (h.add l (.loop (rec_ .ready none))) := Fz.le_add hl
                have hpsz : ∀ p ∈ ps.toList, p < a.tmps.size := fun p hp => by
                  have := List.all_eq_true.1 hpnt p hp
                  exact Nat.lt_of_lt_of_le (by simpa [Nat.blt_eq] using this) SJ.size
                obtain ⟨hul, henvR⟩ := psEnv_R (g := (⟨h.add l (.loop (rec_ .ready none)), bk, sv, iv⟩ : Gh)) 0 ps.toList yv us s.env env a.tmps henv (hus.mono fun p q hpq => by
                  cases p with
                  | one v => exact Rep.mono hle2 hpq
                  | agg cs => obtain ⟨vs, h5, h6⟩ := hpq; exact ⟨vs, h5, h6.mono fun _ _ => Rep.mono hle2⟩) hpsz (fun t d ht => SJ2.env t d ht)
                have hzip : (ps.zip us.toArray).foldl (fun tmps (t, a) => tmps.setIfInBounds t a) a.tmps = (ps.toList.zip us).foldl (fun t (p, v) => t.setIfInBounds p v) a.tmps := by
                  rw [← Array.foldl_toList, Array.toList_zip]
                let ar : Act := { tmps := (ps.toList.zip us).foldl (fun t (p, v) => t.setIfInBounds p v) a.tmps, defers := [] }
                have Sr : Sim P ann.nt B w0 (h.add l (.loop (rec_ .ready none))) ⟨h.add l (.loop (rec_ .ready none)), bk, sv, iv⟩ ⟨env, s.objs, []⟩ ar W := by
                  have Sa := (SJ2.envs (env := []) (fun t d ht => by simp [lk] at ht) (fun t d ht => by simp [lk] at ht) []).act (a' := ar) (Marks.nil _ _) (by rw [show ar.tmps.size = a.tmps.size from fold_size _ _]; exact SJ.size) (fun t d ht => by simp [lk] at ht)
                  exact Sa.envs henvR (fun t d ht L hL => by
                    rcases psEnv_lab _ _ _ _ henv t d ht with h5 | h5
                    · exact SJ.clE t d h5 L hL
                    · rw [h5] at hL; simp at hL) []
                have hrd : ∀ st pe, Rnd (some l) (h.add l (.loop (rec_ st pe))) := fun st pe l' e => by cases e; exact ⟨_, Fz.add_same⟩
                refine ⟨_, _, _, _, by rw [run_yield (P := P) (args := us.toArray) hW (by simp [rec_, hul]), hzip], roundIn_of_wpIn (F := Fence.wide) trivial ?_⟩
                show x.wpIn (FR (some l)) n' P _ ar W
                refine wpIn_mono (ihx (some l) n' _ (dstC x ++ dstC y) ar _ _ _ ar W (fun t ht => List.mem_append.2 (.inl ht)) (hrd _ _) hg Sr (Kp.refl _ _)) ?_
                rintro e a' w' ⟨g2, σ2, hK2, S2, hkp2⟩
                cases e with
                | normal =>
                  simp only [seqK] at hK2
                  obtain ⟨_, hno2, hw2, S3⟩ := S2.unhide hBl hl rfl (fun ds => by simp)
                  refine ⟨_, run_beginRound hw2 rfl, ?_⟩
                  have S4 := S3.putObj (.loop { rec_ .ready none with state := .busy }) Fz.del_same hBl hno2
                  have hw4 : (w'.putObj l (.loop { rec_ .ready none with state := .busy })).heap[l]? = some (.loop (rec_ .busy none)) := World.putObj_heap_same (Array.getElem?_eq_some_iff.1 hw2).1
                  have S5 := S4.hide (o := .loop (rec_ .busy none)) Fz.del_same hw4 hBl hno2
                  show y.wpIn (FR (some l)) n' P _ a' _
                  refine wpIn_mono (ihy (some l) n' _ (dstC x ++ dstC y) ar _ σ2 _ a' _ (fun t ht => List.mem_append.2 (.inr ht)) (hrd _ _) hK2 S5 hkp2) ?_
                  rintro e a5 w5 ⟨g6, σ6, hK6, S6, hkp6⟩
                  have back : ∀ s7, canon P k σ6 = some s7 → ∃ (w5l : w5.heap[l]? = some (.loop (rec_ .busy none))) (h' : Fz) (bk sv : _) (iv : Nat → Nat → Value), Fle h h' ∧ h' l = none ∧
                      ∀ o', Sim P ann.nt B w0 h0 ⟨h', bk, sv, iv⟩ s7 a1 (w5.putObj l o') ∧ (∀ L o, lk s7.objs L = some o → ¬ obk ⟨h', bk, sv, iv⟩ L o l) := by
                    intro s7 hs7
                    obtain ⟨g7, S7⟩ := canon_sound hs7 S6
                    obtain ⟨_, hno8, hw8, S8⟩ := S7.unhide hBl hl rfl (fun ds => by simp)
                    have hle8 : Fle h (g7.h.del l) := S8.le0
                    refine ⟨hw8, g7.h.del l, g7.bk, g7.sv, g7.iv, hle8, Fz.del_same, fun o' => ⟨?_, hno8⟩⟩
                    have S9 := (S8.putObj o' Fz.del_same hBl hno8).down (h0 := h0) SJ.le0 SJ.hn
                    refine S9.act (SJ.dfr.mono hle8) SJ.size fun t d ht => ?_
                    obtain ⟨h10, h11⟩ := hout t (canon_env hs7 t d ht)
                    have h12 := hkp6.1 t h11
                    have h13 : ar.tmps.getD t undef = a.tmps.getD t undef := fold_other _ _ _ fun q hq e => h10 (e ▸ (List.of_mem_zip hq).1)
                    have := S9.env t d ht
                    rw [h12, h13] at this
                    exact this
                  cases e with
                  | normal =>
                    simp only [roundK] at hK6
                    split at hK6
                    · rename_i s7 hs7
                      obtain ⟨w5l, h', bk', sv', iv', hle', hl', hS⟩ := back s7 hs7
                      have hlt5 := (Array.getElem?_eq_some_iff.1 w5l).1
                      refine ⟨_, _, run_endRound none w5l, h', hle', (hS _).1.hw, .inl ⟨rfl, s7, bk', sv', iv', hK6, canon_env hs7, (hS _).1, hl', hBl, (hS (.loop (rec_ .ready none))).2, ?_⟩⟩
                      exact World.putObj_heap_same hlt5
                    · exact hK6.elim
                  | ret =>
                    simp only [roundK] at hK6
                    split at hK6
                    · rename_i s7 hs7
                      obtain ⟨w5l, h', bk', sv', iv', hle', hl', hS⟩ := back s7 hs7
                      have hlt5 := (Array.getElem?_eq_some_iff.1 w5l).1
                      refine ⟨_, _, run_endRound (some .ret) w5l, h', hle', (hS _).1.hw, .inr ⟨rfl, s7, bk', sv', iv', .ret, .inl ⟨rfl, hK6⟩, (hS _).1, hl', hBl, (hS (.loop (rec_ .ready none))).2, ?_⟩⟩
                      exact World.putObj_heap_same hlt5
                    · exact hK6.elim
                  | exit id =>
                    simp only [roundK] at hK6
                    split at hK6
                    · rename_i s7 hs7
                      obtain ⟨w5l, h', bk', sv', iv', hle', hl', hS⟩ := back s7 hs7
                      have hlt5 := (Array.getElem?_eq_some_iff.1 w5l).1
                      refine ⟨_, _, run_endRound (some (.exit id)) w5l, h', hle', (hS _).1.hw, .inr ⟨rfl, s7, bk', sv', iv', .exit id, .inr ⟨id, rfl, hK6⟩, (hS _).1, hl', hBl, (hS (.loop (rec_ .ready none))).2, ?_⟩⟩
                      exact World.putObj_heap_same hlt5
                    · exact hK6.elim
                  | goto q => exact hK6.elim
                  | panic ch => exact hK6.elim
                  | outgrown => exact hK6.elim
                | exit id => exact hK2.elim
                | goto q => exact hK2.elim
                | ret => exact hK2.elim
                | panic ch => exact hK2.elim
                | outgrown => exact hK2.elim
              · exact hg.elim
        · exact h.elim
      · exact h.elim
    · exact h.elim
  · exact h.elim

theorem vc_snd (hok : OkAll P Γ) (ann : Ann) : ∀ (c : Code), Snd P Γ ann B w0 c := by
  intro c
  induction c with
  | skip => intro r n h0 D a0 K σ g a w _ _ h S hkp; exact wpIn_skip ⟨g, σ, h, S, hkp⟩
  | region id ops draw =>
    intro r n h0 D a0 K σ g a w hD _ h S hkp
    simp only [vc] at h
    exact reg_sound hok ann hD h S hkp fun g' σ' a' w' hK S' hk' _ => ⟨g', σ', hK, S', hk'⟩
  | seq x y ihx ihy =>
    intro r n h0 D a0 K σ g a w hD hR h S hkp
    refine wpIn_seq (wpIn_mono (ihx r n h0 D a0 _ σ g a w (fun t ht => hD t (List.mem_append.2 (.inl ht))) hR h S hkp) ?_)
    have hDy : ∀ t ∈ dstC y, t ∈ D := fun t ht => hD t (List.mem_append.2 (.inr ht))
    rintro e a' w' ⟨g', σ', hK, S', hk'⟩
    cases e with
    | normal =>
      simp only [seqK, cutK] at hK
      split at hK
      · split at hK
        · rename_i s hs
          obtain ⟨g2, S2⟩ := canon_sound hs S'
          exact ihy r n h0 D a0 K s g2 a' w' hDy hR hK S2 hk'
        · exact hK.elim
      · exact ihy r n h0 D a0 K σ' g' a' w' hDy hR hK S' hk'
    | exit id => exact ⟨g', σ', hK, S', hk'⟩
    | goto l => exact ⟨g', σ', hK, S', hk'⟩
    | ret => exact ⟨g', σ', hK, S', hk'⟩
    | panic ch => exact ⟨g', σ', hK, S', hk'⟩
    | outgrown => exact ⟨g', σ', hK, S', hk'⟩
  | cond c x y ihx ihy =>
    intro r n h0 D a0 K σ g a w hD hR h S hkp
    simp only [vc] at h
    split at h
    · rename_i t ht
      have hv := bool_inv S ht
      have hS : ∀ b, t = b → Sim P ann.nt B w0 h0 g (setOp σ c b) a w := by
        intro b hb
        cases c with
        | tmp q =>
          refine S.env' (t := q) (d := .bool b) ?_ (lab_p _)
          have : a.tmps.getD q undef = .bool t := hv
          rw [this, hb]; exact .bool b
        | _ => exact S
      have h2 := condP_iff.1 h
      refine wpIn_cond hv ?_
      cases t with
      | true => exact ihx r n h0 D a0 K _ g a w (fun t ht => hD t (List.mem_append.2 (.inl ht))) hR (h2.1 rfl) (hS true rfl) hkp
      | false => exact ihy r n h0 D a0 K _ g a w (fun t ht => hD t (List.mem_append.2 (.inr ht))) hR (h2.2 rfl) (hS false rfl) hkp
    · exact h.elim
  | block id b ih =>
    intro r n h0 D a0 K σ g a w hD hR h S hkp
    refine wpIn_block (wpIn_mono (ih r n h0 D a0 _ σ g a w hD hR h S hkp) ?_)
    rintro e a' w' ⟨g', σ', hK, S', hk'⟩
    cases e with
    | exit j =>
      simp only [blockK] at hK
      simp only [Exit.inBlock]
      split at hK
      · rename_i hj; rw [if_pos (Nat.eq_of_beq_eq_true hj)]; exact ⟨g', σ', hK, S', hk'⟩
      · rename_i hj; rw [if_neg (Nat.ne_of_beq_eq_false hj)]; exact ⟨g', σ', hK, S', hk'⟩
    | normal => exact ⟨g', σ', hK, S', hk'⟩
    | goto l => exact ⟨g', σ', hK, S', hk'⟩
    | ret => exact ⟨g', σ', hK, S', hk'⟩
    | panic ch => exact ⟨g', σ', hK, S', hk'⟩
    | outgrown => exact ⟨g', σ', hK, S', hk'⟩
  | loop b ih =>
    intro r n h0 D a0 K σ g a w hD hR h S hkp
    simp only [vc] at h
    split at h
    · rename_i k hk
      split at h
      · rename_i s hs
        obtain ⟨g1, S1⟩ := canon_sound hs S
        refine loopX_start ?_
        have key := h (fun s => ∀ g a w, Sim P ann.nt B w0 h0 g s a w → Kp D a0 a → LoopX (FR r) n P b (PostR P ann.nt B w0 h0 D a0 K) a w) ?_
        · exact key g1 a w S1 hkp
        · intro s hs g a w S hkp
          refine loopX_round (wpIn_mono (ih r n h0 D a0 _ s g a w hD hR hs S hkp) ?_)
          rintro e a' w' ⟨g', σ', hK, S', hk'⟩
          cases e with
          | normal =>
            simp only [loopK, hk] at hK
            split at hK
            · rename_i s2 hs2
              obtain ⟨g2, S2⟩ := canon_sound hs2 S'
              exact hK g2 a' w' S2 hk'
            · exact hK.elim
          | exit id => exact ⟨g', σ', hK, S', hk'⟩
          | goto l => exact ⟨g', σ', hK, S', hk'⟩
          | ret => exact ⟨g', σ', hK, S', hk'⟩
          | panic ch => exact ⟨g', σ', hK, S', hk'⟩
          | outgrown => exact ⟨g', σ', hK, S', hk'⟩
      · exact h.elim
    · split at h
      · rename_i m k hk
        have key : ∀ (m : Nat) (σ : St) (g : Gh) (a : Act) (w : World), vcUn P k (vc P Γ ann b) m K σ → Sim P ann.nt B w0 h0 g σ a w → Kp D a0 a → LoopX (FR r) n P b (PostR P ann.nt B w0 h0 D a0 K) a w := by
          intro m
          induction m with
          | zero => intro σ g a w h; exact h.elim
          | succ m ihm =>
            intro σ g a w h S hkp
            simp only [vcUn] at h
            split at h
            · rename_i s hs
              obtain ⟨g1, S1⟩ := canon_sound hs S
              refine loopX_round (wpIn_mono (ih r n h0 D a0 _ s g1 a w hD hR h S1 hkp) ?_)
              rintro e a' w' ⟨g', σ', hK, S', hk'⟩
              cases e with
              | normal => exact ihm σ' g' a' w' hK S' hk'
              | exit id => exact ⟨g', σ', hK, S', hk'⟩
              | goto l => exact ⟨g', σ', hK, S', hk'⟩
              | ret => exact ⟨g', σ', hK, S', hk'⟩
              | panic ch => exact ⟨g', σ', hK, S', hk'⟩
              | outgrown => exact ⟨g', σ', hK, S', hk'⟩
            · exact h.elim
        exact loopX_start (key m σ g a w h S hkp)
      · exact h.elim
  | exit id => intro r n h0 D a0 K σ g a w _ _ h S hkp; exact wpIn_exit ⟨g, σ, h, S, hkp⟩
  | scope b ih =>
    intro r n h0 D a0 K σ g a w hD hR h S hkp
    refine wpIn_scope (wpIn_mono (ih r n h0 D a0 _ σ g a w hD hR h S hkp) ?_)
    rintro e a' w' ⟨g', σ', hK, S', hk'⟩
    cases e with
    | goto l => exact hK
    | normal => exact ⟨g', σ', hK, S', hk'⟩
    | exit l => exact ⟨g', σ', hK, S', hk'⟩
    | ret => exact ⟨g', σ', hK, S', hk'⟩
    | panic ch => exact ⟨g', σ', hK, S', hk'⟩
    | outgrown => exact ⟨g', σ', hK, S', hk'⟩
  | label l => intro r n h0 D a0 K σ g a w _ _ h S hkp; exact wpIn_label ⟨g, σ, h, S, hkp⟩
  | ret => intro r n h0 D a0 K σ g a w _ _ h S hkp; exact wpIn_ret ⟨g, σ, h, S, hkp⟩
  | rangeFunc f ps x y ihx ihy => exact range_sound hok ihx ihy
  | goto l => intro r n h0 D a0 K σ g a w _ _ h S; exact h.elim
  | refuse s => intro r n h0 D a0 K σ g a w _ _ h S; exact h.elim
end
end Go.Pm
namespace Go.Pm
variable [DrawZ]
open Go.RowKit (Below)

section
variable {P : Program} {Γ : Ctrs}

theorem argEnv_lk : ∀ (args : List PA) (i t : Nat) (d : DV), lk (argEnv i args) t = some d → ∃ x, args[t - i]? = some x ∧ i ≤ t ∧ d = .one (paD x)
  | [], i, t, d, h => by simp [argEnv, lk] at h
  | x :: r, i, t, d, h => by
    simp only [argEnv] at h
    rw [lk_cons] at h
    split at h
    · rename_i e
      simp only [Option.some.injEq] at h
      subst e
      exact ⟨x, by simp, Nat.le_refl _, h.symm⟩
    · rename_i e
      obtain ⟨y, h1, h2, h3⟩ := argEnv_lk r (i + 1) t d h
      refine ⟨y, ?_, by omega, h3⟩
      rw [show t - i = (t - (i + 1)) + 1 by omega, List.getElem?_cons_succ]; exact h1

def resV (tmps : Array Value) : ResultVar → Sem Value
  | .tmp t => pure (tmps.getD t undef)
  | .cell b t => do loadVar t (← asAddr (tmps.getD b undef))

theorem run_asAddr {w : World} (x : Addr) : (asAddr (.pointer (some x))).run P w = .ok x w := rfl

theorem resPA_run {nt B : Nat} {w0 : World} {h0 : Fz} {g : Gh} {σ : St} {a : Act} {w : World} (S : Sim P nt B w0 h0 g σ a w) : ∀ (rs : List ResultVar) (l : List PA), resPA P σ rs = some l →
    ∃ (u : Upd) (vs : List Value), UpdOk (lk σ.objs) u ∧
      (rs.mapM (resV a.tmps)).run P w = .ok vs w ∧
      ∀ (u' : Upd) (h' : Fz), (∀ y ∈ u, y ∈ u') → Frozen g (lk σ.objs) u' h' → RL (paR h') l vs
  | [], l, h => by
    simp [resPA] at h; subst h
    exact ⟨[], [], UpdOk.nil _, rfl, fun _ _ _ _ => trivial⟩
  | .tmp t :: r, l, h => by
    simp only [resPA] at h
    split at h
    · rename_i d hd
      split at h
      · rename_i x u1 l2 h1 h2
        simp only [Option.some.injEq] at h; subst h
        obtain ⟨u2, vs, hu2, hrun, hr⟩ := resPA_run S r l2 h2
        refine ⟨u1 ++ u2, a.tmps.getD t undef :: vs, (frzD_ok h1).append hu2, ?_, fun u' h' hu F => ⟨F.repD h1 (fun y hy => hu y (List.mem_append.2 (.inl hy))) (S.env t d hd), hr u' h' (fun y hy => hu y (List.mem_append.2 (.inr hy))) F⟩⟩
        rw [List.mapM_cons]
        simp only [resV, Sem.run_bind, Sem.run_pure, Result.andThen_ok]
        rw [hrun]; rfl
      · cases h
    · cases h
  | .cell t ty :: r, l, h => by
    simp only [resPA] at h
    split at h
    · rename_i L off ag m ht hg hs
      split at h
      · rename_i ty' cells hL
        split at h
        · rename_i d hd
          split at h
          · rename_i x u1 l2 h1 h2
            simp only [Option.some.injEq] at h; subst h
            obtain ⟨u2, vs, hu2, hrun, hr⟩ := resPA_run S r l2 h2
            obtain ⟨C, hC, hcr⟩ := S.obj L _ hL
            obtain ⟨v, hload, hv⟩ := rdCl_d1R (P := P) hg hs hC 0 (fun j y hj => by obtain ⟨v, hv, hyv⟩ := hcr.get j y hj; exact ⟨v, by simpa using hv, hyv⟩) hd
            have hp : a.tmps.getD t undef = .pointer (some ⟨g.bk L, off, none⟩) := S.env t _ ht
            rw [Nat.zero_add] at hload
            refine ⟨u1 ++ u2, v :: vs, (frzD_ok h1).append hu2, ?_, fun u' h' hu F => ⟨F.repD h1 (fun y hy => hu y (List.mem_append.2 (.inl hy))) hv, hr u' h' (fun y hy => hu y (List.mem_append.2 (.inr hy))) F⟩⟩
            have h1 : (resV a.tmps (.cell t ty)).run P w = .ok v w := by
              simp only [resV, Sem.run_bind, hp, run_asAddr, Result.andThen_ok, hload]
            rw [List.mapM_cons]
            simp only [Sem.run_bind, h1, Result.andThen_ok]
            rw [hrun]; rfl
          · cases h
        · cases h
      · cases h
    · cases h

theorem results_run {nt B : Nat} {w0 : World} {h0 : Fz} {g : Gh} {σ : St} {a : Act} {w : World} (S : Sim P nt B w0 h0 g σ a w) {fn : Func} {l : List PA} (h : resPA P σ fn.results.toList = some l) :
    ∃ (u : Upd) (v : Value), UpdOk (lk σ.objs) u ∧ (results fn a.tmps).run P w = .ok v w ∧ ∀ (h' : Fz), Frozen g (lk σ.objs) u h' → resR h' l v := by
  obtain ⟨u, vs, hu, hrun, hr⟩ := resPA_run S fn.results.toList l h
  refine ⟨u, if h : vs.toArray.size = 1 then vs.toArray[0] else .tuple vs.toArray, hu, ?_, fun h' F => ?_⟩
  · have e : results fn a.tmps = (do let vs ← fn.results.mapM (resV a.tmps); pure (if h : vs.size = 1 then vs[0] else .tuple vs)) := rfl
    rw [e, Array.mapM_eq_mapM_toList]
    simp only [Sem.run_bind, Sem.run_map]
    rw [hrun]
    simp only [Result.andThen_ok, Sem.run_pure]
  · have hrl := hr u h' (fun y hy => hy) F
    match l, vs, hrl with
    | [], [], _ => exact ⟨[], rfl, trivial⟩
    | [x], [v], hrl => exact hrl.1
    | x :: y :: l, v :: v2 :: vs, hrl =>
      refine ⟨v :: v2 :: vs, ?_, hrl⟩
      rw [dif_neg (by simp)]
    | [], _ :: _, hrl => exact hrl.elim
    | [_], [], hrl => exact hrl.elim
    | [_], _ :: _ :: _, hrl => exact hrl.2.elim
    | _ :: _ :: _, [], hrl => exact hrl.elim
    | _ :: _ :: _, [_], hrl => exact hrl.2.elim

theorem Sim.unmark {nt B : Nat} {w0 : World} {h0 : Fz} {g : Gh} {σ : St} {a : Act} {w : World} (S : Sim P nt B w0 h0 g σ a w) {D : Nat} {Ds : List (Nat ⊕ Deferred)}
    (hnd : (lefts (.inl D :: Ds)).Nodup) (hm : ∀ E, Sum.inl E ∈ .inl D :: Ds → B ≤ E ∧ g.h E = some (.fz (.deferred (some [])))) (hi : ∀ d, Sum.inr d ∈ Ds → IdleD P d) (h0b : ∀ b, h0 b = some (.fz (.deferred (some []))) → b < B) {ds : List Deferred} (hds : ds = Ds.map deD) :
    w.heap[D]? = some (.deferred (some [])) ∧ Sim P nt B w0 h0 (g.re (g.h.del D)) σ { a with defers := ds } (w.putObj D (.deferred none)) := by
  obtain ⟨hB, hb⟩ := hm D List.mem_cons_self
  have hnot := (List.nodup_cons.1 hnd).1
  have hl : FleC g.h (g.h.del D) := fun k x hk hx => by
    rw [Fz.del_other]; exact hk
    intro e; subst e; rw [hb] at hk; simp only [Option.some.injEq] at hk; subst hk
    obtain ⟨C, ty, fr, hx⟩ := hx; cases hx
  have hno : ∀ L x, lk σ.objs L = some x → ¬ obk g L x D := fun L x hL hk => by have := (S.own L x D hL hk).2; rw [hb] at this; cases this
  refine ⟨S.hw.fz hb, ?_⟩
  have S1 : Sim P nt B w0 h0 (g.re (g.h.del D)) σ { a with defers := ds } w := by
    refine ⟨⟨Ds, (List.nodup_cons.1 hnd).2, hds, fun E hE => ⟨(hm E (List.mem_cons_of_mem _ hE)).1, ?_⟩, hi⟩, S.size, fun t d ht => dvR_re hl (S.env t d ht), fun L x hL => aoR_re hl (S.obj L x hL), fun L x k hL hk => ?_, S.sep, ?_, ?_, ?_, S.below, S.bs, S.clE, S.clO⟩
    · show g.h.del D E = _
      rw [Fz.del_other (fun e => hnot (by rw [← e]; exact mem_lefts hE))]; exact (hm E (List.mem_cons_of_mem _ hE)).2
    · obtain ⟨h1, h2⟩ := S.own L x k hL hk
      refine ⟨h1, ?_⟩
      show g.h.del D k = none
      unfold Fz.del
      split
      · rfl
      · exact h2
    · intro k x hk
      have hk : g.h.del D k = some x := hk
      unfold Fz.del at hk
      split at hk
      · cases hk
      · exact S.hw k x hk
    · intro k x hk
      show g.h.del D k = some x
      rw [Fz.del_other (fun e => by
        subst e
        have h1 := S.le0 _ _ hk
        rw [hb] at h1; simp only [Option.some.injEq] at h1; rw [← h1] at hk
        have := h0b _ hk; omega)]; exact S.le0 k x hk
    · intro k x hk
      have hk : g.h.del D k = some x := hk
      unfold Fz.del at hk
      split at hk
      · cases hk
      · exact S.hn k x hk
  exact S1.putObj _ Fz.del_same hB hno

theorem leavesM {nt B : Nat} {w0 : World} {h0 : Fz} {σ : St} {fn : Func} {R : Ending → World → Prop} {n : Nat} (h0b : ∀ b, h0 b = some (.fz (.deferred (some []))) → b < B) :
    ∀ (Ds : List (Nat ⊕ Deferred)) (g : Gh) (a : Act) (w : World), (lefts Ds).Nodup → a.defers = Ds.map deD → (∀ D, Sum.inl D ∈ Ds → B ≤ D ∧ g.h D = some (.fz (.deferred (some [])))) → (∀ d, Sum.inr d ∈ Ds → IdleD P d) → Sim P nt B w0 h0 g σ a w →
      (∀ g' a' w', a'.tmps = a.tmps → Sim P nt B w0 h0 g' σ a' w' → ∃ v, (results fn a'.tmps).run P w' = .ok v w' ∧ R (.returned v) w') → LeavesInM (FR none) n P fn a.tmps R a.defers .returning w
  | [], g, a, w, _, ha, _, _, S, hR => by
    rw [ha]
    exact hR g a w rfl S
  | .inl D :: Ds, g, a, w, hnd, ha, hm, hi, S, hR => by
    obtain ⟨h1, S1⟩ := S.unmark hnd hm (fun d hd => hi d (List.mem_cons_of_mem _ hd)) h0b rfl
    rw [ha, List.map_cons]
    refine ⟨by simp, .inl ⟨D, _, rfl, run_takeDeferred h1, ?_⟩⟩
    have hnot := (List.nodup_cons.1 hnd).1
    exact leavesM h0b Ds _ { a with defers := Ds.map deD } _ (List.nodup_cons.1 hnd).2 rfl (fun E hE => ⟨(hm E (List.mem_cons_of_mem _ hE)).1, by
      show g.h.del D E = _
      rw [Fz.del_other (fun e => hnot (by rw [← e]; exact mem_lefts hE))]; exact (hm E (List.mem_cons_of_mem _ hE)).2⟩) (fun d hd => hi d (List.mem_cons_of_mem _ hd)) S1 (fun g' a' w' ht => hR g' a' w' ht)
  | .inr d :: Ds, g, a, w, hnd, ha, hm, hi, S, hR => by
    obtain ⟨fv, cap, f, args, h1, h2, h3⟩ := hi d List.mem_cons_self
    rw [ha, List.map_cons]
    refine ⟨by simp, .inr ⟨(fun h => by cases h), fv, cap, f, args, h1, h2 w, (fun _ _ => trivial), ?_⟩⟩
    obtain ⟨c1, c2⟩ := h3 (n - 1) w
    refine ⟨c1, fun c cs hc hr => ?_⟩
    obtain ⟨e, u', w', fr, hR', rest⟩ := c2 c cs hc hr
    refine ⟨e, u', w', fr, ?_, rest⟩
    obtain ⟨⟨v, rfl⟩, rfl, rfl⟩ := hR'
    have hm' : ∀ D, Sum.inl D ∈ Ds → B ≤ D ∧ g.h D = some (.fz (.deferred (some []))) := fun D hD => hm D (List.mem_cons_of_mem _ hD)
    have hi' : ∀ d, Sum.inr d ∈ Ds → IdleD P d := fun d hd => hi d (List.mem_cons_of_mem _ hd)
    exact leavesM h0b Ds g { a with defers := Ds.map deD } _ hnd rfl hm' hi' (S.act ⟨Ds, hnd, rfl, hm', hi'⟩ S.size S.env) (fun g' a' w' ht => hR g' a' w' ht)

theorem sim_start {nt : Nat} {args : List PA} {w : World} {h0 : Fz} {vs : List Value} {m : Nat} (hnt : nt = m) (hlen : args.length ≤ nt) (hvs : RL (paR h0) args vs) (hfz : Hw h0 w) :
    Sim P nt w.heap.size w h0 ⟨h0, fun _ => 0, fun _ => undef, fun _ _ => undef⟩ ⟨argEnv 0 args, [], []⟩ { tmps := vs.toArray ++ Array.replicate (m - vs.toArray.size) undef, defers := [] } w := by
  have hl := hvs.length
  refine ⟨Marks.nil _ _, by simp; omega, ?_, fun L o ho => by simp [lk] at ho, fun L o b ho => by simp [lk] at ho, fun L o b L' o' ho => by simp [lk] at ho, hfz, fun _ _ h => h, fun b o h => .inl h, Bel.refl _ _ _, Nat.le_refl _, ?_, fun L o ho => by simp [lk] at ho⟩
  · intro t d ht
    obtain ⟨x, hx, _, rfl⟩ := argEnv_lk args 0 t d ht
    obtain ⟨v, hv, hxv⟩ := hvs.get t x (by simpa using hx)
    have hlt := (List.getElem?_eq_some_iff.1 hv).1
    have : (vs.toArray ++ Array.replicate (m - vs.toArray.size) undef).getD t undef = v := by
      rw [Array.getD_eq_getD_getElem?, Array.getElem?_append_left (by simpa using hlt)]
      simp [hv]
    rw [this]
    exact paD_R (g := ⟨h0, fun _ => 0, fun _ => undef, fun _ _ => undef⟩) hxv
  · intro t d ht L hL
    obtain ⟨x, hx, _, rfl⟩ := argEnv_lk args 0 t d ht
    rw [show dvLab (.one (paD x)) = d1Lab (paD x) from rfl, paD_lab] at hL; simp at hL

theorem run_vcFun {G : Ctrs} (hok : OkAll P G) {f : FuncId} {ann : Ann} {args : List PA} {Kx : Func → Exit → St → Prop} {w : World} {h0 : Fz} {vs : List Value} {R : Ending → World → Prop} {fn : Func} {c : Code}
    (hfn : P.funcs[f]? = some fn) (hbody : fn.body = some c) (hnt : ann.nt = fn.ntmps) (hlen : args.length ≤ ann.nt) (hv : vc P G ann c (Kx fn) ⟨argEnv 0 args, [], []⟩) (hvs : RL (paR h0) args vs) (hfz : Hw h0 w)
    (hend : ∀ e σ g a w', Kx fn e σ → Sim P ann.nt w.heap.size w h0 g σ a w' → (e = .normal ∨ e = .ret) ∧ ∃ v, (results fn a.tmps).run P w' = .ok v w' ∧ R (.returned v) w') : Calls P f vs.toArray w R := by
  have S := sim_start (P := P) hnt hlen hvs hfz
  have hwp := vc_snd (B := w.heap.size) (w0 := w) hok ann c none 0 h0 (dstC c) _ (Kx fn) _ _ _ _ (fun _ h => h) (Rnd.none h0) hv S (Kp.refl _ _)
  refine (callsIn_wide (n := 0)).1 ?_
  refine callsIn_of_wp_marks (F := FR none) hfn hbody trivial (wpIn_mono hwp ?_)
  have h0b : ∀ b, h0 b = some (.fz (.deferred (some []))) → b < w.heap.size := fun b h => hfz.lt h
  rintro e a' w' ⟨g', σ', hK', S', _⟩
  have fin : LeavesInM (FR none) 0 P fn a'.tmps R a'.defers .returning w' := by
    obtain ⟨Ds, h1, h2, h3, h4⟩ := S'.dfr
    exact leavesM h0b Ds g' a' w' h1 h2 h3 h4 S' fun g2 a2 w2 _ S2 => (hend e σ' g2 a2 w2 hK' S2).2
  rcases (hend e σ' g' a' w' hK' S').1 with rfl | rfl
  · exact fin
  · exact fin

theorem fun_run {G : Ctrs} (hok : OkAll P G) {f : FuncId} {args : List PA} {K : List PA → Prop} {ann : Ann} (hv : vcFun P G ann f args K) {w : World} {h0 : Fz} {vs : List Value} (hvs : RL (paR h0) args vs) (hfz : Hw h0 w) :
    Calls P f vs.toArray w fun e w' => ∃ (h' : Fz) (rs : List PA) (v : Value), K rs ∧ e = .returned v ∧ resR h' rs v ∧ Bel h0 w.heap.size w w' ∧
      Fle h0 h' ∧ Hw h' w' ∧ ∀ b o, h' b = some o → h0 b = some o ∨ w.heap.size ≤ b := by
  unfold vcFun at hv
  split at hv
  · rename_i fn hfn
    split at hv
    · rename_i c hbody
      split at hv
      · rename_i hnt
        simp only [Bool.and_eq_true, Nat.ble_eq] at hnt
        refine run_vcFun (G := G) hok (Kx := fun fn => bodyK P fn K) hfn hbody (Nat.eq_of_beq_eq_true hnt.1) hnt.2 hv hvs hfz ?_
        intro e σ' g' a' w' hK' S'
        have fin : finK P fn K σ' → ∃ v, (results fn a'.tmps).run P w' = .ok v w' ∧
            (∃ (h' : Fz) (rs : List PA) (v_1 : Value), K rs ∧ Ending.returned v = .returned v_1 ∧ resR h' rs v_1 ∧ Bel h0 w.heap.size w w' ∧ Fle h0 h' ∧ Hw h' w' ∧ ∀ b o, h' b = some o → h0 b = some o ∨ w.heap.size ≤ b) := by
          intro hf
          unfold finK at hf
          split at hf
          · rename_i l hl
            obtain ⟨u, v, hu, hrun, hres⟩ := results_run S' hl
            obtain ⟨h', S2, F⟩ := S'.freeze hu
            exact ⟨v, hrun, h', l, v, hf, rfl, hres h' F, S2.below, S2.le0, S2.hw, S2.hn⟩
          · exact hf.elim
        cases e with
        | normal => exact ⟨.inl rfl, fin hK'⟩
        | ret => exact ⟨.inr rfl, fin hK'⟩
        | exit id => exact hK'.elim
        | goto l => exact hK'.elim
        | panic ch => exact hK'.elim
        | outgrown => exact hK'.elim
      · exact hv.elim
    · exact hv.elim
  · exact hv.elim
theorem ok_of_vc {G : Ctrs} (hok : OkAll P G) {f : FuncId} {C : List PA → Cps (List PA)} (hc : Callable P f)
    (h : ∀ args rs, (C args).o = some rs → ∃ vv ann, vcFun P { G with vv := vv } ann f args fun rs' => rs' = rs) : Ok P f C := by
  intro args rs hK w h0 vs hvs hfz
  obtain ⟨vv, ann, hv⟩ := h args rs hK
  refine ⟨hc, (fun_run (G := { G with vv := vv }) ⟨hok.mt, hok.fn, hok.own, hok.it, hok.cmp⟩ hv hvs hfz).mono ?_⟩
  rintro e w' ⟨h', rs', v, rfl, he⟩
  exact ⟨h', v, he⟩
end
end Go.Pm
namespace Go.Pm
variable [DrawZ]
open Go.RowKit (Below)

section
variable {P : Program} {Γ : Ctrs} {nt : Nat} {n : Nat}

theorem op_round {o : Oper} {a : Act} {w w' : World} {R : Act → World → Prop} {Q : Exit → Act → World → Prop} (hnd : ∀ c, o.op ≠ .defer c) {l f : Nat} {tmps : Array Value} {x y : Code} (h : (execOp a.eval o).run P w = .ok (.round l f tmps x y) w')
    (hR : RoundIn Fence.wide (n - 1) P l f tmps x y w' fun e w'' => ∃ v, e = .returned v ∧ R (a.put o.dst v) w'') : o.wpIn (FR none) n P a w R Q := by
  refine ⟨fun _ _ => trivial, ?_⟩
  rw [Oper.semAt_eq _ _ _ hnd, h, Oper.uponIn_round]
  refine ⟨fun h => by simp [FR] at h, ?_⟩
  have hR' : RoundIn (FR none) (n - 1) P l f tmps x y w' fun e w'' => ∃ v, e = .returned v ∧ R (a.put o.dst v) w'' := hR
  refine hR'.mono ?_
  rintro e w'' ⟨v, rfl, hv⟩
  exact hv

theorem oneDs_R {h : Fz} {g : Gh} (hg : g.h = h) : ∀ {ds : List DV} {l : List PA} {vs : List Value}, oneDs ds = some l → RL (dvR g) ds vs → RL (paR h) l vs
  | [], l, vs, h, hr => by
    simp only [oneDs, Option.some.injEq] at h; subst h
    cases vs with
    | nil => trivial
    | cons => exact hr.elim
  | d :: ds, l, [], h, hr => hr.elim
  | .one (.c (.p p)) :: ds, l, v :: vs, h, hr => by
    simp only [oneDs] at h
    split at h
    · rename_i l' hl'
      simp only [Option.some.injEq] at h; subst h
      refine ⟨?_, oneDs_R hg hl' hr.2⟩
      have := hr.1
      rw [← hg]
      exact this
    · cases h
  | .one (.agg cs) :: ds, l, v :: vs, h, hr => by
    simp only [oneDs] at h
    split at h
    · rename_i l' m' hc hm'
      simp only [Option.some.injEq] at h; subst h
      refine ⟨?_, oneDs_R hg hm' hr.2⟩
      obtain ⟨us, rfl, hus⟩ := hr.1
      rw [toPVs_spec hc] at hus
      have := RL.map_left.1 hus
      exact ⟨us, rfl, by rw [← hg]; exact this⟩
    · cases h
  | .one (.c (.ptr _ _)) :: ds, l, v :: vs, h, hr => by simp [oneDs] at h
  | .one (.c (.vptr _ _ _ _)) :: ds, l, v :: vs, h, hr => by simp [oneDs] at h
  | .one (.c (.vec _)) :: ds, l, v :: vs, h, hr => by simp [oneDs] at h
  | .one (.c .undef) :: ds, l, v :: vs, h, hr => by simp [oneDs] at h
  | .one (.c .junk) :: ds, l, v :: vs, h, hr => by simp [oneDs] at h
  | .one (.c (.dead _)) :: ds, l, v :: vs, h, hr => by simp [oneDs] at h
  | .tup _ :: ds, l, v :: vs, h, hr => by simp [oneDs] at h

variable (J Jx : List (List PA) → Fz → World → Prop)

def JQ (q : Bool) (ys : List (List PA)) (h : Fz) (w : World) : Prop :=
  match q with
  | false => J ys h w
  | true => ∃ rest, Jx rest h w

structure YI (l : Nat) (a : Act) : Prop where
  d : a.defers = []
  y : a.tmps.getD 0 undef = .func (.yield l) #[] #[]
theorem YI.put {l : Nat} {a : Act} (h : YI l a) {dst : Option Nat} (hd : dst ≠ some 0) {v : Value} {ds : List Deferred} (hds : (({ a with defers := ds } : Act).put dst v).defers = []) : YI l (({ a with defers := ds } : Act).put dst v) := by
  refine ⟨hds, ?_⟩
  cases dst with
  | none => exact h.y
  | some t =>
    have ht : t ≠ 0 := fun e => hd (by rw [e])
    have := h.y
    simpa [Act.put, Array.getD_eq_getD_getElem?, Array.getElem?_setIfInBounds_ne ht] using this
def PostY (P : Program) (nt l : Nat) (hs : Fz) (K : YK) : Exit → Act → World → Prop :=
  fun e a' w' => ∃ ys q σ w0 h0 g, K e ys q σ ∧ Sim P nt w0.heap.size w0 h0 g σ a' w' ∧ Fle hs h0 ∧ JQ J Jx q ys h0 w0 ∧ YI l a'

variable {J Jx}
theorem JQ.later {q : Bool} {ys : List (List PA)} {h0 : Fz} {w0 : World} {g : Gh} {σ : St} {a : Act} {w : World} (hJ : JSt J) (hJx : JSt Jx) (h : JQ J Jx q ys h0 w0) (S : Sim P nt w0.heap.size w0 h0 g σ a w) : JQ J Jx q ys g.h w := by
  cases q with
  | false => exact hJ _ _ _ _ _ h S.le0 S.hw S.hn S.below
  | true => obtain ⟨rest, h⟩ := h; exact ⟨rest, hJx _ _ _ _ _ h S.le0 S.hw S.hn S.below⟩

def YH (P : Program) (J Jx : List (List PA) → Fz → World → Prop) (l : Nat) : Prop :=
  ∀ y rest h W us, J (y :: rest) h W → RL (paR h) y us → Hw h W → ∀ n, ∃ fn tmps assign body, (Instr.yield l us.toArray).run P W = .ok (.round l fn tmps assign body) W ∧
      RoundIn Fence.wide n P l fn tmps assign body W fun e W' => ∃ h', Fle h h' ∧ Hw h' W' ∧ ((e = .returned (.bool true) ∧ J rest h' W') ∨ (e = .returned (.bool false) ∧ Jx rest h' W'))

theorem lk_dropLab {kl : List Nat} {l : List (Nat × DV)} : ∀ {ks : List Nat} {t : Nat} {d : DV}, lk (dropLab kl l ks) t = some d → lk l t = some d ∧ ∀ L ∈ dvLab d, L ∈ kl
  | [], t, d, h => by simp [dropLab, lk] at h
  | k :: ks, t, d, h => by
    simp only [dropLab] at h
    split at h
    · rename_i d' hd'
      split at h
      · rename_i hl
        rw [lk_cons] at h
        split at h
        · rename_i e
          simp only [Option.some.injEq] at h; subst h; subst e
          refine ⟨hd', fun L hL => ?_⟩
          have := List.all_eq_true.1 hl L hL
          simpa using this
        · exact lk_dropLab h
      · exact lk_dropLab h
    · exact lk_dropLab h

theorem yFbox_ok {ob : Nat → Option AO} : ∀ {ks : List Nat} {x : Nat × AO}, x ∈ yFbox ob ks → ∃ l, ob x.1 = some (.fbox l) ∧ x.2 = .fbox l
  | [], x, h => by simp [yFbox] at h
  | k :: ks, x, h => by
    simp only [yFbox] at h
    split at h
    · rename_i l hk
      rcases List.mem_cons.1 h with rfl | h
      · exact ⟨l, hk, rfl⟩
      · exact yFbox_ok h
    · exact yFbox_ok h
theorem yObjs_lk {σ : St} {L : Nat} {o : AO} (h : lk (yObjs σ) L = some o) : ∃ l, o = .fbox l ∧ lk (yBox (lk σ.objs) (σ.objs.map (·.1)) ++ σ.objs) L = some (.fbox l) := by
  unfold yObjs at h
  rw [lk_append] at h ⊢
  cases hb : lk (yBox (lk σ.objs) (σ.objs.map (·.1))) L with
  | some x =>
    rw [hb] at h
    simp only [Option.some.injEq] at h
    subst h
    obtain ⟨ty, cells, l, _, h2, _⟩ := yBox_ok (lk_mem hb)
    have h2 : x = .fbox l := h2
    subst h2
    exact ⟨l, rfl, rfl⟩
  | none =>
    rw [hb] at h
    simp only at h
    obtain ⟨l, h1, h2⟩ := yFbox_ok (lk_mem h)
    exact ⟨l, h2, h1⟩
theorem lk_some_of_mem {α : Type} : ∀ {l : List (Nat × α)} {L : Nat}, L ∈ l.map (·.1) → ∃ o, lk l L = some o
  | [], L, h => by simp at h
  | (k, a) :: r, L, h => by
    rw [lk_cons]
    split
    · exact ⟨a, rfl⟩
    · rename_i hne
      simp only [List.map_cons, List.mem_cons] at h
      rcases h with rfl | h
      · exact absurd rfl hne
      · exact lk_some_of_mem h

theorem isYl_inv {σ : St} {o : Oper} {args : Array Operand} {t : Nat} (h : isYl σ o = some (args, t)) :
    ∃ f ts, o.op = .call { callee := .value f, args, argTypes := ts } ∧ o.dst = some t ∧ evO σ.env f = .cl (.vec ylL) ∧ lk σ.env 0 = some (.cl (.vec ylL)) := by
  unfold isYl at h
  split at h
  · rename_i f az ts t' hop hd
    split at h
    · rename_i hl
      split at h
      · rename_i h0
        simp only [Option.some.injEq, Prod.mk.injEq] at h
        obtain ⟨rfl, rfl⟩ := h
        exact ⟨f, ts, hop, hd, hl, h0⟩
      · cases h
    · cases h
  · cases h

theorem yF_lk {σ : St} {L : Nat} {o : AO} (h : lk ((ylL, AO.gone) :: yObjs σ) L = some o) : (L = ylL ∧ o = .gone) ∨ lk (yObjs σ) L = some o := by
  rw [lk_cons] at h
  split at h
  · rename_i e; simp only [Option.some.injEq] at h; exact .inl ⟨e.symm, h.symm⟩
  · exact .inr h
theorem vcOpsY_sound (hok : OkAll P Γ) {l : Nat} (hJ : JSt J) (hJx : JSt Jx) (hY : YH P J Jx l) {hs : Fz} {ops : Array Oper} {K : List (List PA) → Bool → St → Prop} {Q : Exit → Act → World → Prop}
    (hQ : ∀ ys q σ w0 h0 g a w, K ys q σ → Sim P nt w0.heap.size w0 h0 g σ a w → Fle hs h0 → JQ J Jx q ys h0 w0 → YI l a → Q .normal a w) :
    ∀ (lo : List Oper) (i : Nat) (ys : List (List PA)) (q : Bool) (σ : St) (w0 : World) (h0 : Fz) (g : Gh) (a : Act) (w : World), (∀ j, lo[j]? = ops[i + j]?) → (∀ o ∈ lo, o.dst ≠ some 0) → vcOpsY P Γ nt ops lo K ys q σ →
      Sim P nt w0.heap.size w0 h0 g σ a w → Fle hs h0 → JQ J Jx q ys h0 w0 → YI l a → wpOpsIn (FR none) n P ops Q (List.range' i lo.length) a w := by
  intro lo
  induction lo with
  | nil => intro i ys q σ w0 h0 g a w _ _ h S hle hj hd; exact hQ ys q σ w0 h0 g a w h S hle hj hd
  | cons o lo ih =>
    intro i ys q σ w0 h0 g a w hl hz h S hle hj hdf
    have hz0 := hz o List.mem_cons_self
    have hz' : ∀ o ∈ lo, o.dst ≠ some 0 := fun o ho => hz o (List.mem_cons_of_mem _ ho)
    have ho : ops[i]? = some o := by have := hl 0; simpa using this.symm
    have hl' : ∀ j, lo[j]? = ops[i + 1 + j]? := fun j => by have := hl (j + 1); rw [List.getElem?_cons_succ] at this; rw [this]; congr 1; omega
    simp only [List.length_cons, List.range'_succ, wpOpsIn, ho]
    have run : ∀ (σ : St), Sim P nt w0.heap.size w0 h0 g σ a w → vcStepY P Γ nt o (vcOpsY P Γ nt ops lo K) ys q σ → o.wpIn (FR none) n P a w (wpOpsIn (FR none) n P ops Q (List.range' (i + 1) lo.length)) Q := by
      clear h S
      intro σ S h
      unfold vcStepY at h
      split at h
      · rename_i args t hyl
        obtain ⟨f, ts, hop, hdst, hf, hf0⟩ := isYl_inv hyl
        split at h
        · rename_i y hy ht
          obtain ⟨rest, rfl, htr, hfa⟩ := h
          have hfv : a.eval f = .func (.yield l) #[] #[] := by
            have h1 : dvR g _ (a.eval f) := S.ev f
            rw [hf] at h1
            have h2 := S.env 0 _ hf0
            rw [hdf.y] at h2
            have h1 : a.eval f = g.sv ylL ∧ _ := h1
            have h2 : Value.func (.yield l) #[] #[] = g.sv ylL ∧ _ := h2
            exact h1.1.trans h2.1.symm
          · obtain ⟨h1, S1, _⟩ := S.freeze (yBox_upd (ob := lk σ.objs) (ks := σ.objs.map (·.1)))
            have hJn : J (y :: rest) h1 w := hj.later hJ hJx S1
            have hus : RL (paR h1) y (args.toList.map a.eval) := oneDs_R (g := ⟨h1, g.bk, g.sv, g.iv⟩) rfl hy (rl_ev S1 args.toList)
            obtain ⟨fn, tmps, x, c, hrun, hround⟩ := hY y rest h1 w _ hJn hus S1.hw (n - 1)
            refine op_round (by simp [hop]) (l := l) (f := fn) (tmps := tmps) (x := x) (y := c) (w' := w) ?_ (hround.mono ?_)
            · simp only [execOp, hop, resolve, hfv, Deferred.ofValue, Sem.run_bind, Sem.run_pure, Result.andThen_ok, invoke]
              rw [show (#[] ++ Array.map a.eval args) = (args.toList.map a.eval).toArray by cases args; simp]
              exact hrun
            · have hto : okDst nt (some t) = true := ht
              have next : ∀ (b : Bool) (h' : Fz) (W' : World), Fle h1 h' → Hw h' W' → JQ J Jx (!b) rest h' W' → vcOpsY P Γ nt ops lo K rest (!b) ((yForget σ).setT t (.bool b)) →
                  wpOpsIn (FR none) n P ops Q (List.range' (i + 1) lo.length) (a.put o.dst (.bool b)) W' := by
                intro b h' W' hle' hw' hj' hv'
                have S0 : Sim P nt W'.heap.size W' h' ⟨h', g.bk, g.sv, g.iv⟩ (yForget σ) a W' := by
                  refine ⟨by rw [hdf.d]; exact Marks.nil _ _, S.size, ?_, fun L o ho => ?_, fun L o b ho hob => ?_, fun L o b L' o' ho ho' hob hob' => ?_, hw', fun _ _ h => h, fun b o h => .inl h, Bel.refl _ _ _, Nat.le_refl _, ?_, fun L o ho M hM => ?_⟩
                  · intro u d hu
                    obtain ⟨h2, _⟩ := lk_dropLab hu
                    exact dvR_same (g := ⟨h1, g.bk, g.sv, g.iv⟩) (g' := ⟨h', g.bk, g.sv, g.iv⟩) (fun L hL => ⟨rfl, rfl, rfl⟩) hle' (S1.env u d h2)
                  · rcases yF_lk ho with ⟨_, rfl⟩ | ho
                    · trivial
                    obtain ⟨l, rfl, h2⟩ := yObjs_lk ho
                    obtain ⟨C, ty, fr, hC, hr⟩ := S1.obj L _ h2
                    exact ⟨C, ty, fr, hle' _ _ hC, hr.mono fun _ _ => Rep.mono hle'⟩
                  · rcases yF_lk ho with ⟨_, rfl⟩ | ho
                    · exact hob.elim
                    obtain ⟨l, rfl, _⟩ := yObjs_lk ho; exact hob.elim
                  · rcases yF_lk ho with ⟨_, rfl⟩ | ho
                    · exact hob.elim
                    obtain ⟨l, rfl, _⟩ := yObjs_lk ho; exact hob.elim
                  · intro u d hu L hL
                    exact lk_some_of_mem (l := (ylL, AO.gone) :: yObjs σ) ((lk_dropLab hu).2 L hL)
                  · rcases yF_lk ho with ⟨_, rfl⟩ | ho
                    · simp [aoLab] at hM
                    obtain ⟨l, rfl, _⟩ := yObjs_lk ho; simp [aoLab] at hM
                have S2 := S0.put (dst := some t) (d := .bool b) (v := .bool b) hto (.bool b) (lab_p _) []
                rw [hdst]
                exact ih (i + 1) rest (!b) _ W' h' _ _ W' hl' hz' hv' S2 (fun b o hb => hle' b o (S1.le0 b o (hle b o hb))) hj' (hdf.put (ds := a.defers) (hdst ▸ hz0) ((put_defers _ _ _).trans hdf.d))
              rintro e W' ⟨h', hle', hw', (⟨rfl, hj'⟩ | ⟨rfl, hj'⟩)⟩
              · exact ⟨_, rfl, next true h' W' hle' hw' hj' htr⟩
              · exact ⟨_, rfl, next false h' W' hle' hw' ⟨rest, hj'⟩ hfa⟩
        · exact h.elim
      · split at h
        · rename_i hd
          obtain ⟨hs', hk⟩ := vcAct_iff.1 h
          refine op_mono (op_put (act_sound (i := 0) (Q := Q) (r := none) (n := n) hok S hd rfl hs')) ?_
          rintro a' w' ⟨⟨hdf', g', σ', hst, S'⟩, v, ds, rfl⟩
          exact ih (i + 1) ys q _ w0 h0 g' _ w' hl' hz' (hk σ' hst) (S'.log _) hle hj (hdf.put hz0 (hdf'.trans hdf.d))
        · exact h.elim
    have skp : ∀ (σ : St), okDst nt o.dst = true → Sim P nt w0.heap.size w0 h0 g σ a w → vcOpsY P Γ nt ops lo K ys q (σ.skip o.dst) → wpOpsIn (FR none) n P ops Q (List.range' (i + 1) lo.length) (a.put o.dst undef) w := by
      intro σ hd S h
      exact ih (i + 1) ys q _ w0 h0 g _ w hl' hz' h (S.skip hd) hle hj (hdf.put (ds := a.defers) hz0 ((put_defers _ _ _).trans hdf.d))
    simp only [vcOpsY] at h
    split at h
    · rename_i hg
      rw [if_pos (by simp [Region.wanted, hg])]
      exact run σ S h
    · rename_i j want hg
      split at h
      · rename_i gt hd hgt
        split at h
        · rename_i b hb
          have hv : a.tmps.getD gt undef = .bool b := by
            have := S.env gt _ hb
            generalize a.tmps.getD gt undef = v at this
            cases this; rfl
          have hy := yielded_bool hgt hv
          have S1 : ∀ c, b = c → Sim P nt w0.heap.size w0 h0 g (σ.setT gt (.bool c)) a w := by
            intro c hc
            refine S.env' (t := gt) (d := .bool c) ?_ (lab_p _)
            rw [hv, hc]; exact .bool c
          have h2 := condP_iff.1 h
          cases b with
          | true =>
            have h3 := h2.1 rfl
            cases want with
            | true => rw [if_pos (by simp [Region.wanted, hg, hy])]; exact run _ (S1 true rfl) h3
            | false => rw [if_neg (by simp [Region.wanted, hg, hy])]; exact ⟨fun _ _ => trivial, skp _ hd (S1 true rfl) h3⟩
          | false =>
            have h3 := h2.2 rfl
            cases want with
            | true => rw [if_neg (by simp [Region.wanted, hg, hy])]; exact ⟨fun _ _ => trivial, skp _ hd (S1 false rfl) h3⟩
            | false => rw [if_pos (by simp [Region.wanted, hg, hy])]; exact run _ (S1 false rfl) h3
        · rename_i hb
          have hv : a.tmps.getD gt undef = undef := S.env gt _ hb
          have hy := yielded_undef hgt hv
          rw [if_neg (by simp [Region.wanted, hg, hy])]
          exact ⟨fun _ _ => trivial, skp _ hd S h⟩
        · exact h.elim
      · exact h.elim

theorem dst_mem : ∀ {l : List Oper} {o : Oper} {t : Nat}, o ∈ l → o.dst = some t → t ∈ dstL l := fun {l} _ _ h e => by
  obtain ⟨j, hj⟩ := List.getElem?_of_mem h
  exact mem_dstL hj e
theorem vcY_sound (hok : OkAll P Γ) (ann : Ann) {l : Nat} (hJ : JSt J) (hJx : JSt Jx) (hY : YH P J Jx l) {hs : Fz} : ∀ (c : Code) (K : YK) (ys : List (List PA)) (q : Bool) (σ : St) (w0 : World) (h0 : Fz) (g : Gh) (a : Act) (w : World),
    vcY P Γ ann c K ys q σ → Sim P ann.nt w0.heap.size w0 h0 g σ a w → Fle hs h0 → JQ J Jx q ys h0 w0 → YI l a → c.wpIn (FR none) n P (PostY J Jx P ann.nt l hs K) a w := by
  intro c
  induction c with
  | skip => intro K ys q σ w0 h0 g a w h S hle hj hd; exact wpIn_skip ⟨ys, q, σ, w0, h0, g, h, S, hle, hj, hd⟩
  | region id ops draw =>
    intro K ys q σ w0 h0 g a w h S hle hj hd
    simp only [vcY] at h
    split at h
    · exact h.elim
    · -- a region that yields
      rename_i hz _
      refine wpIn_region ?_
      have := vcOpsY_sound (n := n) hok hJ hJx hY (hs := hs) (ops := ops) (Q := PostY J Jx P ann.nt l hs K) (fun ys q σ w0 h0 g a w h S hle hj hd => ?_) ops.toList 0 ys q _ w0 h0 g a w (fun j => by simp) (fun o ho e => by have := dst_mem ho e; simp at hz; exact hz this) h (S.log _) hle hj hd
      · rw [List.range_eq_range']
        simpa using this
      · split at h
        · split at h
          · rename_i s hs'
            obtain ⟨g2, S2⟩ := canon_sound hs' S
            exact ⟨ys, q, s, w0, h0, g2, h, S2, hle, hj, hd⟩
          · exact h.elim
        · exact ⟨ys, q, _, w0, h0, g, h, S.log _, hle, hj, hd⟩
    · exact h.elim
    · rename_i hz _
      exact reg_sound (r := none) (n := n) hok ann (D := dstL ops.toList) (a0 := a) (fun _ h => h) h S (Kp.refl _ _) fun g' σ' a' w' hK S' hk hdf => ⟨ys, q, σ', w0, h0, g', hK, S', hle, hj, hdf.trans hd.d, (hk.1 0 (by simpa using hz)).trans hd.y⟩
  | seq x y ihx ihy =>
    intro K ys q σ w0 h0 g a w h S hle hj hd
    refine wpIn_seq (wpIn_mono (ihx _ ys q σ w0 h0 g a w h S hle hj hd) ?_)
    rintro e a' w' ⟨ys', q', σ', w1, h1, g', hK, S', hle', hj', hd'⟩
    cases e with
    | normal =>
      simp only [seqY, cutY] at hK
      split at hK
      · split at hK
        · rename_i s hs
          obtain ⟨g2, S2⟩ := canon_sound hs S'
          exact ihy K ys' q' s w1 h1 g2 a' w' hK S2 hle' hj' hd'
        · exact hK.elim
      · exact ihy K ys' q' σ' w1 h1 g' a' w' hK S' hle' hj' hd'
    | exit id => exact ⟨ys', q', σ', w1, h1, g', hK, S', hle', hj', hd'⟩
    | goto l => exact ⟨ys', q', σ', w1, h1, g', hK, S', hle', hj', hd'⟩
    | ret => exact ⟨ys', q', σ', w1, h1, g', hK, S', hle', hj', hd'⟩
    | panic ch => exact ⟨ys', q', σ', w1, h1, g', hK, S', hle', hj', hd'⟩
    | outgrown => exact ⟨ys', q', σ', w1, h1, g', hK, S', hle', hj', hd'⟩
  | cond c x y ihx ihy =>
    intro K ys q σ w0 h0 g a w h S hle hj hd
    simp only [vcY] at h
    split at h
    · rename_i t ht
      have hv := bool_inv S ht
      have hS : ∀ b, t = b → Sim P ann.nt w0.heap.size w0 h0 g (setOp σ c b) a w := by
        intro b hb
        cases c with
        | tmp q =>
          refine S.env' (t := q) (d := .bool b) ?_ (lab_p _)
          have : a.tmps.getD q undef = .bool t := hv
          rw [this, hb]; exact .bool b
        | _ => exact S
      have h2 := condP_iff.1 h
      refine wpIn_cond hv ?_
      cases t with
      | true => exact ihx K ys q _ w0 h0 g a w (h2.1 rfl) (hS true rfl) hle hj hd
      | false => exact ihy K ys q _ w0 h0 g a w (h2.2 rfl) (hS false rfl) hle hj hd
    · exact h.elim
  | block id b ih =>
    intro K ys q σ w0 h0 g a w h S hle hj hd
    refine wpIn_block (wpIn_mono (ih _ ys q σ w0 h0 g a w h S hle hj hd) ?_)
    rintro e a' w' ⟨ys', q', σ', w1, h1, g', hK, S', hle', hj', hd'⟩
    cases e with
    | exit j =>
      simp only [blockY] at hK
      simp only [Exit.inBlock]
      split at hK
      · rename_i hj; rw [if_pos (Nat.eq_of_beq_eq_true hj)]; exact ⟨ys', q', σ', w1, h1, g', hK, S', hle', hj', hd'⟩
      · rename_i hj; rw [if_neg (Nat.ne_of_beq_eq_false hj)]; exact ⟨ys', q', σ', w1, h1, g', hK, S', hle', hj', hd'⟩
    | normal => exact ⟨ys', q', σ', w1, h1, g', hK, S', hle', hj', hd'⟩
    | goto l => exact ⟨ys', q', σ', w1, h1, g', hK, S', hle', hj', hd'⟩
    | ret => exact ⟨ys', q', σ', w1, h1, g', hK, S', hle', hj', hd'⟩
    | panic ch => exact ⟨ys', q', σ', w1, h1, g', hK, S', hle', hj', hd'⟩
    | outgrown => exact ⟨ys', q', σ', w1, h1, g', hK, S', hle', hj', hd'⟩
  | loop b ih =>
    intro K ys q σ w0 h0 g a w h S hle hj hd
    simp only [vcY] at h
    split at h
    · rename_i k hk
      split at h
      · rename_i s hs'
        obtain ⟨g1, S1⟩ := canon_sound hs' S
        refine loopX_start ?_
        have key := h (fun ys q s => ∀ w0 h0 g a w, Sim P ann.nt w0.heap.size w0 h0 g s a w → Fle hs h0 → JQ J Jx q ys h0 w0 → YI l a → LoopX (FR none) n P b (PostY J Jx P ann.nt l hs K) a w) ?_
        · exact key w0 h0 g1 a w S1 hle hj hd
        · intro ys q s hs2 w0 h0 g a w S hle hj hd
          refine loopX_round (wpIn_mono (ih _ ys q s w0 h0 g a w hs2 S hle hj hd) ?_)
          rintro e a' w' ⟨ys', q', σ', w1, h1, g', hK, S', hle', hj', hd'⟩
          cases e with
          | normal =>
            simp only [loopY, hk] at hK
            split at hK
            · rename_i s2 hs2
              obtain ⟨g2, S2⟩ := canon_sound hs2 S'
              exact hK w1 h1 g2 a' w' S2 hle' hj' hd'
            · exact hK.elim
          | exit id => exact ⟨ys', q', σ', w1, h1, g', hK, S', hle', hj', hd'⟩
          | goto l => exact ⟨ys', q', σ', w1, h1, g', hK, S', hle', hj', hd'⟩
          | ret => exact ⟨ys', q', σ', w1, h1, g', hK, S', hle', hj', hd'⟩
          | panic ch => exact ⟨ys', q', σ', w1, h1, g', hK, S', hle', hj', hd'⟩
          | outgrown => exact ⟨ys', q', σ', w1, h1, g', hK, S', hle', hj', hd'⟩
      · exact h.elim
    · split at h
      · rename_i m k hk
        have key : ∀ (m : Nat) (ys : List (List PA)) (q : Bool) (σ : St) (w0 : World) (h0 : Fz) (g : Gh) (a : Act) (w : World), vcUnY P k (vcY P Γ ann b) m K ys q σ → Sim P ann.nt w0.heap.size w0 h0 g σ a w → Fle hs h0 → JQ J Jx q ys h0 w0 → YI l a →
            LoopX (FR none) n P b (PostY J Jx P ann.nt l hs K) a w := by
          intro m
          induction m with
          | zero => intro ys q σ w0 h0 g a w h; exact h.elim
          | succ m ihm =>
            intro ys q σ w0 h0 g a w h S hle hj hd
            simp only [vcUnY] at h
            split at h
            · rename_i s hs'
              obtain ⟨g1, S1⟩ := canon_sound hs' S
              refine loopX_round (wpIn_mono (ih _ ys q s w0 h0 g1 a w h S1 hle hj hd) ?_)
              rintro e a' w' ⟨ys', q', σ', w1, h1, g', hK, S', hle', hj', hd'⟩
              cases e with
              | normal => exact ihm ys' q' σ' w1 h1 g' a' w' hK S' hle' hj' hd'
              | exit id => exact ⟨ys', q', σ', w1, h1, g', hK, S', hle', hj', hd'⟩
              | goto l => exact ⟨ys', q', σ', w1, h1, g', hK, S', hle', hj', hd'⟩
              | ret => exact ⟨ys', q', σ', w1, h1, g', hK, S', hle', hj', hd'⟩
              | panic ch => exact ⟨ys', q', σ', w1, h1, g', hK, S', hle', hj', hd'⟩
              | outgrown => exact ⟨ys', q', σ', w1, h1, g', hK, S', hle', hj', hd'⟩
            · exact h.elim
        exact loopX_start (key m ys q σ w0 h0 g a w h S hle hj hd)
      · exact h.elim
  | exit id => intro K ys q σ w0 h0 g a w h S hle hj hd; exact wpIn_exit ⟨ys, q, σ, w0, h0, g, h, S, hle, hj, hd⟩
  | scope b ih =>
    intro K ys q σ w0 h0 g a w h S hle hj hd
    refine wpIn_scope (wpIn_mono (ih _ ys q σ w0 h0 g a w h S hle hj hd) ?_)
    rintro e a' w' ⟨ys', q', σ', w1, h1, g', hK, S', hle', hj', hd'⟩
    cases e with
    | goto l => exact hK
    | normal => exact ⟨ys', q', σ', w1, h1, g', hK, S', hle', hj', hd'⟩
    | exit l => exact ⟨ys', q', σ', w1, h1, g', hK, S', hle', hj', hd'⟩
    | ret => exact ⟨ys', q', σ', w1, h1, g', hK, S', hle', hj', hd'⟩
    | panic ch => exact ⟨ys', q', σ', w1, h1, g', hK, S', hle', hj', hd'⟩
    | outgrown => exact ⟨ys', q', σ', w1, h1, g', hK, S', hle', hj', hd'⟩
  | label l => intro K ys q σ w0 h0 g a w h S hle hj hd; exact wpIn_label ⟨ys, q, σ, w0, h0, g, h, S, hle, hj, hd⟩
  | ret => intro K ys q σ w0 h0 g a w h S hle hj hd; exact wpIn_ret ⟨ys, q, σ, w0, h0, g, h, S, hle, hj, hd⟩
  | rangeFunc f ps x y _ _ => intro K ys q σ w0 h0 g a w h S; exact h.elim
  | goto l => intro K ys q σ w0 h0 g a w h S; exact h.elim
  | refuse s => intro K ys q σ w0 h0 g a w h S; exact h.elim

theorem get0_c {v : Value} {vs : List Value} {m : Nat} : ((v :: vs).toArray ++ Array.replicate m undef).getD 0 undef = v := by
  rw [Array.getD_eq_getD_getElem?, Array.getElem?_append_left (by simp)]; simp
theorem sim_yl {nt l : Nat} {args : List PA} {w : World} {h0 : Fz} {vs : List Value} {m : Nat} (hnt : nt = m) (hlen : args.length + 1 ≤ nt) (hvs : RL (paR h0) args vs) (hfz : Hw h0 w) :
    Sim P nt w.heap.size w h0 ⟨h0, fun _ => 0, fun _ => .func (.yield l) #[] #[], fun _ _ => undef⟩ ⟨(0, .cl (.vec ylL)) :: argEnv 1 args, [(ylL, .gone)], []⟩ { tmps := (.func (.yield l) #[] #[] :: vs).toArray ++ Array.replicate (m - (.func (.yield l) #[] #[] :: vs).toArray.size) undef, defers := [] } w := by
  have hl := hvs.length
  have ho : ∀ {L : Nat} {o : AO}, lk [(ylL, AO.gone)] L = some o → o = .gone := fun {L o} h => by
    rw [lk_cons] at h
    split at h
    · simp only [Option.some.injEq] at h; exact h.symm
    · simp [lk] at h
  refine ⟨Marks.nil _ _, by simp; omega, ?_, fun L o h => by rw [ho h]; trivial, fun L o b h hb => by rw [ho h] at hb; exact hb.elim, fun L o b L' o' h h' hb => by rw [ho h] at hb; exact hb.elim, hfz, fun _ _ h => h, fun b o h => .inl h, Bel.refl _ _ _, Nat.le_refl _, ?_, fun L o h M hM => by rw [ho h] at hM; simp [aoLab] at hM⟩
  · intro t d ht
    rw [lk_cons] at ht
    split at ht
    · rename_i e; subst e
      simp only [Option.some.injEq] at ht; subst ht
      rw [get0_c]
      exact ⟨rfl, rfl⟩
    · obtain ⟨x, hx, hle, rfl⟩ := argEnv_lk args 1 t d ht
      obtain ⟨v, hv, hxv⟩ := hvs.get (t - 1) x hx
      have hlt := (List.getElem?_eq_some_iff.1 hv).1
      have : ((.func (.yield l) #[] #[] :: vs).toArray ++ Array.replicate (m - (.func (.yield l) #[] #[] :: vs).toArray.size) undef).getD t undef = v := by
        rw [Array.getD_eq_getD_getElem?, Array.getElem?_append_left (by simp; omega)]
        obtain ⟨k, rfl⟩ : ∃ k, t = k + 1 := ⟨t - 1, by omega⟩
        have hv : vs[k]? = some v := hv
        simp [hv]
      rw [this]
      exact paD_R (g := ⟨h0, fun _ => 0, fun _ => .func (.yield l) #[] #[], fun _ _ => undef⟩) hxv
  · intro t d ht L hL
    rw [lk_cons] at ht
    split at ht
    · simp only [Option.some.injEq] at ht; subst ht
      have e : L = ylL := by simpa [dvLab, d1Lab, clLab] using hL
      subst e
      exact ⟨.gone, rfl⟩
    · obtain ⟨x, hx, _, rfl⟩ := argEnv_lk args 1 t d ht
      rw [show dvLab (.one (paD x)) = d1Lab (paD x) from rfl, paD_lab] at hL; simp at hL

theorem it_of_vc {G : Ctrs} (hok : OkAll P G) {f : FuncId} {C : List PA → Cps (List (List PA))} (hc : Callable P f)
    (h : ∀ caps ys, (C caps).o = some ys → ∃ vv ann, vcIter P { G with vv := vv } ann f caps ys) : ItOk P f C := by
  intro caps ys hC l J Jx w h0 vs hJ hJx hY hj0 hvs hfz
  refine ⟨hc, ?_⟩
  obtain ⟨vv, ann, hv⟩ := h caps ys hC
  unfold vcIter at hv
  split at hv
  · rename_i fn hfn
    split at hv
    · rename_i c hbody
      split at hv
      · rename_i hnt
        simp only [Bool.and_eq_true, Nat.ble_eq] at hnt
        obtain ⟨⟨hnt, hlen⟩, hres⟩ := hnt
        have S := sim_yl (P := P) (l := l) (args := caps) (vs := vs) (h0 := h0) (w := w) (Nat.eq_of_beq_eq_true hnt) (by simpa using hlen) hvs hfz
        have hwp := vcY_sound (n := 0) (Γ := { G with vv := vv }) (J := J) (Jx := Jx) (hs := h0) ⟨hok.mt, hok.fn, hok.own, hok.it, hok.cmp⟩ ann (l := l) hJ hJx hY c _ ys false _ w h0 _ _ w hv S (fun _ _ h => h) hj0 ⟨rfl, get0_c⟩
        refine (callsIn_wide (n := 0)).1 ?_
        refine callsIn_of_wp (F := FR none) hfn hbody trivial (wpIn_mono hwp ?_)
        rintro e a' w' ⟨ys', q', σ', w1, h1, g', hK, S', hle, hj, hd⟩
        have fin : finY ys' q' → a'.defers = [] ∧ ∃ v, (results fn a'.tmps).run P w' = .ok v w' ∧ ∃ v2 h', Ending.returned v = .returned v2 ∧ Fle h0 h' ∧ Hw h' w' ∧ (J [] h' w' ∨ ∃ rest, Jx rest h' w') := by
          intro hf
          have hr : fn.results = #[] := by simpa using hres
          refine ⟨hd.d, .tuple #[], ?_, _, g'.h, rfl, fun b o hb => S'.le0 b o (hle b o hb), S'.hw, ?_⟩
          · simp [results, hr]
          · have := hj.later hJ hJx S'
            cases q' with
            | false => simp only [finY] at hf; subst hf; exact .inl this
            | true => exact .inr this
        cases e with
        | normal => exact fin hK
        | ret => exact fin hK
        | exit id => exact hK.elim
        | goto l => exact hK.elim
        | panic ch => exact hK.elim
        | outgrown => exact hK.elim
      · exact hv.elim
    · exact hv.elim
  · exact hv.elim

def mkvK (n s : Nat) (get : Nat → List PV) (rs : List PV) (r : List PA) : Prop := r = .one (.sl n s get) :: rs.map .one
theorem mkv_of_vc {G : Ctrs} (hok : OkAll P G) {f : FuncId} {e s b : Nat} {F : List PA → Cps (Nat × (Nat → List PV) × List PV)} (hc : Callable P f)
    (h : ∀ az n get rs, (F az).o = some (n, get, rs) → ∃ vv ann, vcMkv P { G with vv := vv } ann f az e s b (mkvK n s get rs)) : OwnOk P f (.mkv e s b F) := by
  intro w h0 az vs n get rs hF hvs hfz
  refine ⟨hc, ?_⟩
  obtain ⟨vv, ann, hv'⟩ := h az n get rs hF
  unfold vcMkv at hv'
  split at hv'
  · rename_i fn hfn
    split at hv'
    · rename_i c hbody
      split at hv'
      · rename_i hnt
        simp only [Bool.and_eq_true, Nat.ble_eq] at hnt
        refine run_vcFun (G := { G with vv := vv }) ⟨hok.mt, hok.fn, hok.own, hok.it, hok.cmp⟩ (Kx := fun fn => bodyKv fn e s b (mkvK n s get rs)) (vs := vs) hfn hbody (Nat.eq_of_beq_eq_true hnt.1) hnt.2 hv' hvs hfz ?_
        intro ex σ' g' a' w' hK' S'
        have fin : finKv fn e s b (mkvK n s get rs) σ' → ∃ v, (results fn a'.tmps).run P w' = .ok v w' ∧ ∃ (h' : Fz) (v' : Value) (xs : List Value), Ending.returned v = .returned (resKv v' xs rs) ∧ RL (Rep h') rs xs ∧ v'.oneCell' = true ∧ Ung get ∧
            VecV h' w' w.heap.size e s v' n get ∧ (∀ k, v'.ownBlock = some k → h' k = none) ∧ Bel h0 w.heap.size w w' ∧ Fle h0 h' ∧ Hw h' w' ∧ ∀ b o, h' b = some o → h0 b = some o ∨ w.heap.size ≤ b := by
          intro hf
          unfold finKv at hf
          split at hf
          · rename_i t hres
            have hr : fn.results = #[.tmp t] := by rw [← Array.toArray_toList (xs := fn.results), hres]
            have hrun : (results fn a'.tmps).run P w' = .ok (a'.tmps.getD t undef) w' := by
              simp only [results, hr]
              simp
            split at hf
            · rename_i L ht
              split at hf
              · rename_i e' s' b' m get' hob
                split at hf
                · rename_i hb
                  simp only [Bool.and_eq_true] at hb
                  have e1 := Nat.eq_of_beq_eq_true hb.1
                  have e2 := Nat.eq_of_beq_eq_true hb.2.1
                  subst e1 e2
                  obtain ⟨htv, hone⟩ := S'.env t _ ht
                  obtain ⟨hpos, hinfo, ys, hys, hrr⟩ := S'.obj L _ hob
                  unfold mkvK at hf
                  cases rs with
                  | nil =>
                    simp only [List.map_nil, List.cons.injEq, PA.one.injEq, PV.sl.injEq, and_true] at hf
                    obtain ⟨rfl, _, rfl⟩ := hf
                    exact ⟨_, hrun, g'.h, g'.sv L, [], by rw [htv]; rfl, trivial, by rw [← htv]; exact hone, hpos.1, ⟨ys, hys, hrr⟩, fun k hk => (S'.own L _ k hob hk).2, S'.below, S'.le0, S'.hw, S'.hn⟩
                  | cons x l => simp at hf
                · exact hf.elim
              · exact hf.elim
            · exact hf.elim
          · rename_i t u hres
            have hr : fn.results = #[.tmp t, .tmp u] := by rw [← Array.toArray_toList (xs := fn.results), hres]
            have hrun : (results fn a'.tmps).run P w' = .ok (.tuple #[a'.tmps.getD t undef, a'.tmps.getD u undef]) w' := by
              simp only [results, hr]
              simp
            split at hf
            · rename_i L ht
              split at hf
              · rename_i x hu
                split at hf
                · rename_i e' s' b' m get' hob
                  split at hf
                  · rename_i hb
                    simp only [Bool.and_eq_true] at hb
                    have e1 := Nat.eq_of_beq_eq_true hb.1
                    have e2 := Nat.eq_of_beq_eq_true hb.2.1
                    subst e1 e2
                    obtain ⟨htv, hone⟩ := S'.env t _ ht
                    have huv := S'.env u _ hu
                    obtain ⟨hpos, hinfo, ys, hys, hrr⟩ := S'.obj L _ hob
                    unfold mkvK at hf
                    match rs, hf with
                    | [y], hf =>
                      simp only [List.map_cons, List.map_nil, List.cons.injEq, PA.one.injEq, PV.sl.injEq, and_true] at hf
                      obtain ⟨⟨rfl, _, rfl⟩, rfl⟩ := hf
                      exact ⟨_, hrun, g'.h, g'.sv L, [a'.tmps.getD u undef], by rw [← htv]; rfl, ⟨huv, trivial⟩, by rw [← htv]; exact hone, hpos.1, ⟨ys, hys, hrr⟩, fun k hk => (S'.own L _ k hob hk).2, S'.below, S'.le0, S'.hw, S'.hn⟩
                    | [], hf => simp at hf
                    | _ :: _ :: _, hf => simp at hf
                  · exact hf.elim
                · exact hf.elim
              · exact hf.elim
            · exact hf.elim
          · exact hf.elim
        cases ex with
        | normal => exact ⟨.inl rfl, fin hK'⟩
        | ret => exact ⟨.inr rfl, fin hK'⟩
        | exit id => exact hK'.elim
        | goto l => exact hK'.elim
        | panic ch => exact hK'.elim
        | outgrown => exact hK'.elim
      · exact hv'.elim
    · exact hv'.elim
  · exact hv'.elim
end
end Go.Pm
