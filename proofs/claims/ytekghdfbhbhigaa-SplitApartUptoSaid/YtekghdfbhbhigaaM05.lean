/- A logic of calls: a range over a function. -/
import Derived.RangeFuncRecord
import Derived.Scope
import Derived.Test.YtekghdfbhbhigaaM04
set_option linter.unusedVariables false
set_option linter.unusedSimpArgs false
namespace Go.Proofs.Ytekghdfbhbhigaa.V
open Go.RowKit

theorem lkE_cons (e : Nat) (X : Option Ent) (E : List (Nat × Option Ent)) (f : Nat) : lkE ((e, X) :: E) f = if e = f then X else lkE E f := by
  unfold lkE
  rw [lk_cons]
  by_cases h : e = f
  · rw [if_pos h, if_pos h]; rfl
  · rw [if_neg h, if_neg h]
theorem Tr.weak {C D : Nat → Prop} {u w u' w' : World} (h : Tr C u w u' w') (hc : ∀ k, C k → D k) : Tr D u w u' w' :=
  ⟨h.os, h.tape, h.output, h.size, fun k hk hd => h.block k hk (fun h' => hd (hc k h')), h.old, h.sub, fun k hk hd => h.dead k hk (fun h' => hd (hc k h'))⟩
/-- Memory of another's, without names. -/
structure Ent0 where
  hold : World → World → (Nat → Prop) → Prop
  mono : ∀ {u u' w F}, Sub u u' → hold u w F → hold u' w F
  loc : ∀ {u w w' F}, (∀ k, F k → w'.heap[k]? = w.heap[k]?) → hold u w F → hold u w' F
def Ent.ab (z : Ent0) : Ent := ⟨[], fun _ u w _ F => z.hold u w F, fun hs h => z.mono hs h, fun _ h => h, fun hl h => z.loc hl h⟩
/-- One block that holds no cells. -/
def Ent.ob (k : Nat) (o : Obj) : Ent := ⟨[], fun _ _ w _ F => (∀ q, F q ↔ q = k) ∧ w.heap[k]? = some o, fun _ h => h, fun _ h => h, fun hl h => ⟨h.1, (hl k ((h.1 k).2 rfl)).trans h.2⟩⟩
/-- A call of yield: what the other party does in between. -/
def YOk (P : Program) (l : Nat) (X : T) (z : Ent0) (b : Bool) (z' : Ent0) : Prop := ∀ v u w (F : Nat → Prop), Sub u w → X.rep B0 u v → z.hold u w F → (∀ k, F k → Dead u k ∧ k < w.heap.size) →
  ∃ fn tmps ac bd, (Instr.yield l #[v]).run P w = .ok (.round l fn tmps ac bd) w ∧ RoundIn Fence.wide 0 P l fn tmps ac bd w fun e w' => e = .returned (.bool b) ∧ ∃ u' F', Tr F u w u' w' ∧ z'.hold u' w' F' ∧ (∀ k, F' k → Dead u' k ∧ k < w'.heap.size) ∧ ∀ k, F' k → F k ∨ w.heap.size ≤ k
section
variable {P : Program} {ops : Array Oper} {fin : List OpS → List (Nat × T) → List (Nat × Option Ent) → Prop} {r : List Oper} {H : List OpS} {g : List (Nat × T)} {E : List (Nat × Option Ent)} {o : Oper}
variable {t : Option Nat} {ty : TypeId} {ps : String} {af : Array Edge} {gd : Option (Nat × Bool)} {x y : Operand} {X Y : T} {e : Nat}
/-- yield is called. -/
theorem yd {l : Nat} {tys : Array TypeId} {z z' : Ent0} {b : Bool} (hX : envl g x = some (T.c (.func (.yield l) #[] #[]))) (hY : envl g y = some Y) (hE : lkE E e = some (Ent.ab z)) (h : YOk P l X z b z') (hl : Y.le X)
    (hn : J P ops fin r (⟨[], [e], [(e, Ent.ab z')], [], T.c (.bool b)⟩ :: H) (putg t (T.c (.bool b)) g) ((e, some (Ent.ab z')) :: E)) (h0 : X.ns = [] := by rfl)
    (hg : GuardIs ops g ⟨t, .call ⟨.value x, #[y], tys⟩, ty, ps, af, gd⟩ true := by exact gd0) : J P ops fin (⟨t, .call ⟨.value x, #[y], tys⟩, ty, ps, af, gd⟩ :: r) H g E :=
  j_set hE hg (fun ρ β u w F hs he hH => by
    have hx : ρ x = .func (.yield l) #[] #[] := he x (show x ∈ (#[x] ++ #[y] : Array Operand) from by simp) _ hX
    have hy := he y (show y ∈ (#[x] ++ #[y] : Array Operand) from by simp) _ hY
    obtain ⟨fn, tmps, ac, bd, h1, h2⟩ := h (ρ y) u w (F e) hs (X.ext (fun n hn => by rw [h0] at hn; cases hn) (hl _ _ _ hy)) (hH.hold e _ lk1_same) (fun k hk => hH.dead e _ k lk1_same hk)
    unfold Res
    rw [show (execOp ρ ⟨t, .call ⟨.value x, #[y], tys⟩, ty, ps, af, gd⟩).run P w = .ok (.round l fn tmps ac bd) w from by
      simp only [execOp, resolve, hx, Deferred.ofValue, Sem.run_bind, Sem.run_pure, Result.andThen_ok, invoke, List.map_toArray, List.map_cons, List.map_nil]
      simpa using h1]
    refine h2.mono fun e' w' ⟨he', u', F', ht, hz, hd, hf⟩ => ⟨_, he', u', β, fun _ => F', fun _ _ => rfl, ht.weak (fun k hk => ⟨e, List.mem_cons_self, hk⟩), hold1 hz hd, fun f X k hf' hk => ?_, rfl⟩
    rcases hf k hk with h | h
    · exact .inl ⟨e, List.mem_cons_self, h⟩
    · exact .inr h) hn
end
section
variable {c : Ctx} {n : Nat} {g : List (Nat × T)} {E : List (Nat × Option Ent)} {a : Act} {w : World}
theorem cell_put {w : World} {k : Nat} {o : Obj} {p : Addr} (h : p.block ≠ k) : (w.putObj k o).cell? p = w.cell? p := World.cell?_of_block (World.putObj_heap_other h)
/-- A block that holds no cells is turned. -/
theorem InSt.putOb {k : Nat} {o : Obj} (e : Nat) (hE : lkE E e = some (Ent.ob k o)) (h : InSt c n g E a w) (o' : Obj) : InSt c n g ((e, some (Ent.ob k o')) :: E) a (w.putObj k o') := by
  obtain ⟨β, u, F, h1, h2, h3, h4, h5, h6, h7⟩ := h
  obtain ⟨k1, k2⟩ := h4.hold e _ hE
  have hk : F e k := (k1 k).2 rfl
  obtain ⟨d1, d2⟩ := h4.dead e _ k hE hk
  have hlk := lkE_cons e (some (Ent.ob k o')) E
  have cas : ∀ f X, lkE ((e, some (Ent.ob k o')) :: E) f = some X → (f = e ∧ X = Ent.ob k o') ∨ (f ≠ e ∧ lkE E f = some X) := fun f X hX => by
    rw [hlk] at hX
    by_cases hf : e = f
    · rw [if_pos hf] at hX; cases hX; exact .inl ⟨hf.symm, rfl⟩
    · rw [if_neg hf] at hX; exact .inr ⟨Ne.symm hf, hX⟩
  have old : ∀ f X, lkE ((e, some (Ent.ob k o')) :: E) f = some X → ∃ Y, lkE E f = some Y := fun f X hX => by
    rcases cas f X hX with ⟨rfl, _⟩ | ⟨_, h⟩
    · exact ⟨_, hE⟩
    · exact ⟨_, h⟩
  refine ⟨β, u, F, h1, h2, h3, ⟨fun f X hX => ?_, fun f X q hX hq => ?_, fun f f' X Y q hX hY hne hq => ?_⟩, ⟨h5.os, h5.tape, h5.output, by simpa using h5.size, fun b hb hc => ?_, h5.old, fun p v hp => ?_, h5.dead⟩, fun f X q hX hq => ?_, h7⟩
  · rcases cas f X hX with ⟨rfl, rfl⟩ | ⟨hne, hX'⟩
    · exact ⟨k1, World.putObj_heap_same d2⟩
    · exact X.loc (fun q hq => World.putObj_heap_other (fun e1 => h4.apart f e X _ q hX' hE hne hq (e1 ▸ hk))) (h4.hold f X hX')
  · obtain ⟨Y, hY⟩ := old f X hX
    have := h4.dead f Y q hY hq
    exact ⟨this.1, by simpa using this.2⟩
  · obtain ⟨Z, hZ⟩ := old f X hX
    obtain ⟨Z', hZ'⟩ := old f' Y hY
    exact h4.apart f f' Z Z' q hZ hZ' hne hq
  · rw [World.putObj_heap_other, h5.block b hb hc]
    rintro rfl
    rcases h6 e _ b hE hk with h | h
    · exact hc h
    · omega
  · by_cases hb : p.block = k
    · rw [d1 p hb] at hp; cases hp
    · rw [cell_put hb]; exact h5.sub p v hp
  · obtain ⟨Y, hY⟩ := old f X hX
    exact h6 f Y q hY hq
/-- A block that holds no cells is laid. -/
theorem InSt.newOb (e : Nat) (o : Obj) (h : InSt c n g E a w) : InSt c n g ((e, some (Ent.ob w.heap.size o)) :: E) a (w.alloc o) := by
  obtain ⟨β, u, F, h1, h2, h3, h4, h5, h6, h7⟩ := h
  have hs := h5.sub
  have hlk := lkE_cons e (some (Ent.ob w.heap.size o)) E
  have cas : ∀ f X, lkE ((e, some (Ent.ob w.heap.size o)) :: E) f = some X → (f = e ∧ X = Ent.ob w.heap.size o) ∨ (f ≠ e ∧ lkE E f = some X) := fun f X hX => by
    rw [hlk] at hX
    by_cases hf : e = f
    · rw [if_pos hf] at hX; cases hX; exact .inl ⟨hf.symm, rfl⟩
    · rw [if_neg hf] at hX; exact .inr ⟨Ne.symm hf, hX⟩
  have ht := tr_alloc (C := fun _ => False) hs o
  refine ⟨β, u, fun f q => if f = e then q = w.heap.size else F f q, h1, h2, h3, ⟨fun f X hX => ?_, fun f X q hX hq => ?_, fun f f' X Y q hX hY hne hq => ?_⟩, h5.trans ht (fun _ h => h.elim), fun f X q hX hq => ?_, h7⟩
  · rcases cas f X hX with ⟨rfl, rfl⟩ | ⟨hne, hX'⟩
    · simp only [if_true]
      exact ⟨fun q => Iff.rfl, World.alloc_heap_new w o⟩
    · simp only [if_neg hne]
      exact X.loc (fun q hq => ht.block q (h4.dead f X q hX' hq).2 (fun h => h)) (h4.hold f X hX')
  · rcases cas f X hX with ⟨rfl, rfl⟩ | ⟨hne, hX'⟩
    · simp only [if_true] at hq
      subst hq
      exact ⟨dead_new hs (Nat.le_refl _), by simp⟩
    · simp only [if_neg hne] at hq
      have := h4.dead f X q hX' hq
      exact ⟨this.1, Nat.lt_of_lt_of_le this.2 ht.size⟩
  · rcases cas f X hX with ⟨rfl, rfl⟩ | ⟨hf, hX'⟩ <;> rcases cas f' Y hY with ⟨rfl, rfl⟩ | ⟨hf', hY'⟩
    · exact absurd rfl hne
    · simp only [if_true, if_neg hf'] at hq ⊢
      intro h
      have := (h4.dead f' Y q hY' h).2
      omega
    · simp only [if_true, if_neg hf] at hq ⊢
      intro h
      have := (h4.dead f X q hX' hq).2
      omega
    · simp only [if_neg hf, if_neg hf'] at hq ⊢
      exact h4.apart f f' X Y q hX' hY' hne hq
  · rcases cas f X hX with ⟨rfl, rfl⟩ | ⟨hne, hX'⟩
    · simp only [if_true] at hq
      subst hq
      exact .inr h5.size
    · simp only [if_neg hne] at hq
      exact h6 f X q hX' hq
end
/-- One's own, laid by for the time that another's code runs. -/
def Pk (β0 : Env) (S : List Nat) (tmps : Array Value) (G : List (Nat × T)) (M : List (Nat × Option Ent)) : Ent0 where
  hold u w F := ∃ (β : Env) (Fs : FP), (∀ e ∈ S, β e = β0 e) ∧ (∀ t X, lk G t = some X → ∃ v, tmps[t]? = some v ∧ X.rep β u v) ∧ (∀ e X, lkE M e = some X → X.hold β u w (β e) (Fs e)) ∧
    (∀ e f X Y k, lkE M e = some X → lkE M f = some Y → e ≠ f → Fs e k → ¬ Fs f k) ∧ ∀ k, F k ↔ ∃ e X, lkE M e = some X ∧ Fs e k
  mono := fun hs ⟨β, Fs, h1, h2, h3, h4, h5⟩ => ⟨β, Fs, h1, fun t X h => let ⟨v, k1, k2⟩ := h2 t X h; ⟨v, k1, X.mono hs k2⟩, fun e X h => X.mono hs (h3 e X h), h4, h5⟩
  loc := fun hl ⟨β, Fs, h1, h2, h3, h4, h5⟩ => ⟨β, Fs, h1, h2, fun e X h => X.loc (fun k hk => hl k ((h5 k).2 ⟨e, X, h, hk⟩)) (h3 e X h), h4, h5⟩
/-- A round begins. -/
def BR (P : Program) (l : Nat) (bd : Code) (r : Option Nat) (Q : Exit → Act → World → Prop) (a : Act) (w : World) : Prop := ∃ w2, (Instr.beginRound l).run P w = .ok () w2 ∧ bd.wpIn (Fc r) 0 P Q a w2
/-- How a round may end: by which jump; in which state. -/
def RQ (c : Ctx) (n : Nat) (pd : Option Code) (M : List (Nat × Option Ent)) (e : Exit) (a : Act) (w : World) : Prop :=
  (match e with | .normal => pd = none | .ret => pd = some .ret | .exit id => pd = some (.exit id) | _ => False) ∧ InSt c n [] M a w
def RecO (r : Loop) (s : LoopState) (pd : Option Code) : Obj := .loop { r with state := s, pending := pd }
section
variable {P : Program} {c : Ctx} {n : Nat} {g g' : List (Nat × T)} {E E' : List (Nat × Option Ent)} {Q : Exit → Act → World → Prop}
theorem nx_begin {l : Nat} {r : Loop} {bd : Code} (hrd : c.rd = some l) (hE0 : lkE E 702 = some (Ent.ob l (RecO r .ready none))) (hg : SubG g' g) (hE : SubE E' ((702, some (Ent.ob l (RecO r .busy none))) :: E)) (h : Tri P bd Q c n g' E') {Q' : Exit → Act → World → Prop} : PN c n (Exit.then (BR P l bd (some l) Q) Q' .normal) g E := fun a w hS => by
  have hr : w.heap[l]? = some (RecO r .ready none) := by
    obtain ⟨β, u, F, h1, h2, h3, h4, h5, h6, h7⟩ := hS
    exact (h4.hold 702 (Ent.ob l (RecO r .ready none)) hE0).2
  exact ⟨_, run_beginRound hr rfl, by rw [← hrd]; exact h a _ ((hS.putOb 702 hE0 (RecO r .busy none)).sub hg hE)⟩
theorem rq_go {M : List (Nat × Option Ent)} (hE : SubE M E) : PN c n (RQ c n none M .normal) g E := fun a w hS => ⟨rfl, hS.sub sn hE⟩
theorem rq_ret {M : List (Nat × Option Ent)} (hE : SubE M E) : PN c n (RQ c n (some .ret) M .ret) g E := fun a w hS => ⟨rfl, hS.sub sn hE⟩
/-- What is one's own becomes another's concern. -/
theorem pk_of {β β0 : Env} {S : List Nat} {tmps : Array Value} {G : List (Nat × T)} {M : List (Nat × Option Ent)} {u w : World} {Fs : FP} (h1 : ∀ e ∈ S, β e = β0 e) (h2 : ∀ t X, lk G t = some X → ∃ v, tmps[t]? = some v ∧ X.rep β u v) (h : Hold β u w Fs (lkE M)) :
    (Pk β0 S tmps G M).hold u w (fun k => ∃ e X, lkE M e = some X ∧ Fs e k) := ⟨β, Fs, h1, h2, h.hold, h.apart, fun k => Iff.rfl⟩
def dfr : Obj := .deferred (some [])
def st2 (pd : Option Code) : LoopState := if pd.isNone then .ready else .done
/-- A round: the loop's own side. -/
theorem yok_round {β0 : Env} {S : List Nat} {tmps : Array Value} {G : List (Nat × T)} {M M' : List (Nat × Option Ent)} {l p : Nat} {r : Loop} {X : T} {pd : Option Code} (hps : r.params = #[p]) (ht : r.tmps = tmps) (hn : tmps.size = n) (hp : p < n) (h0 : X.ns = []) (hS : ∀ e ∈ nsOf G, e ∈ S)
    (h : ∀ c : Ctx, c.rd = some l → c.df = [] → c.I = S → Tri P r.assign (Exit.then (BR P l r.body (some l) (RQ c n pd ((702, some (Ent.ob l (RecO r .busy none))) :: M'))) (fun _ _ _ => False)) c n ((p, X) :: G) ((702, some (Ent.ob l (RecO r .ready none))) :: M)) :
    YOk P l X (Pk β0 S tmps G ((702, some (Ent.ob l (RecO r .ready none))) :: M)) pd.isNone (Pk β0 S tmps G ((702, some (Ent.ob l (RecO r (st2 pd) pd))) :: M')) := fun v u w F hs hv ⟨β, Fs, k1, k2, k3, k4, k5⟩ hd => by
  have hr : w.heap[l]? = some (RecO r .ready none) := (k3 702 (Ent.ob l (RecO r .ready none)) (by rw [lkE_cons, if_pos rfl])).2
  refine ⟨_, _, _, _, run_yield hr (by simp [hps]), roundIn_of_wpIn trivial ?_⟩
  let c : Ctx := ⟨w, u, F, β, S, [], some l⟩
  have hst : InSt c n ((p, X) :: G) ((702, some (Ent.ob l (RecO r .ready none))) :: M) { tmps := tmps.setIfInBounds p v, defers := [] } w := by
    refine ⟨β, u, Fs, rfl, by simpa using hn, fun t Y hY => ?_, ⟨k3, fun e Y k hY hk => hd k ((k5 k).2 ⟨e, Y, hY, hk⟩), k4⟩, Tr.refl hs, fun e Y k hY hk => .inl ((k5 k).2 ⟨e, Y, hY, hk⟩), fun _ _ => rfl⟩
    rw [lk_cons] at hY
    by_cases ht : p = t
    · subst ht
      rw [if_pos rfl] at hY
      cases hY
      exact ⟨v, by simp [hn, hp], X.ext (fun e he => by rw [h0] at he; cases he) hv⟩
    · rw [if_neg ht] at hY
      obtain ⟨y, q1, q2⟩ := k2 t Y hY
      exact ⟨y, by rw [Array.getElem?_setIfInBounds_ne ht]; exact q1, q2⟩
  have hw := h c rfl rfl rfl _ w hst
  have e1 : ((r.params.zip #[v]).foldl (fun tmps (t, a) => tmps.setIfInBounds t a) r.tmps) = tmps.setIfInBounds p v := by rw [hps, ht]; simp
  show r.assign.wpIn _ 0 P _ { tmps := ((r.params.zip #[v]).foldl (fun tmps (t, a) => tmps.setIfInBounds t a) r.tmps), defers := [] } w
  rw [e1]
  refine wpIn_mono hw fun e a1 w1 hq => ?_
  cases e with
  | normal =>
    obtain ⟨w2, hb, hbd⟩ := hq
    refine ⟨w2, hb, wpIn_mono hbd fun e a2 w3 hq => ?_⟩
    obtain ⟨he, hS2⟩ := hq
    have hr2 : w3.heap[l]? = some (RecO r .busy none) := by
      obtain ⟨β, u, F, h1, h2, h3, h4, h5, h6, h7⟩ := hS2
      exact (h4.hold 702 (Ent.ob l (RecO r .busy none)) (by rw [lkE_cons, if_pos rfl])).2
    have fin : ∀ jp, jp = pd → ∃ v w', (Instr.endRound l jp).run P w3 = .ok v w' ∧ ((Ending.returned v) = .returned (.bool pd.isNone) ∧ ∃ u' F', Tr F u w u' w' ∧ (Pk β0 S tmps G ((702, some (Ent.ob l (RecO r (st2 pd) pd))) :: M')).hold u' w' F' ∧ (∀ k, F' k → Dead u' k ∧ k < w'.heap.size) ∧ ∀ k, F' k → F k ∨ w.heap.size ≤ k) := fun jp hjp => by
      subst hjp
      refine ⟨_, _, run_endRound jp hr2, rfl, ?_⟩
      have hS3 := hS2.putOb 702 (by rw [lkE_cons, if_pos rfl]) (RecO r (st2 jp) jp)
      obtain ⟨β', u', F', g1, g2, g3, g4, g5, g6, g7⟩ := hS3
      have hl : ∀ e X, lkE ((702, some (Ent.ob l (RecO r (st2 jp) jp))) :: M') e = some X → lkE ((702, some (Ent.ob l (RecO r (st2 jp) jp))) :: (702, some (Ent.ob l (RecO r .busy none))) :: M') e = some X := fun e X h => by
        rw [lkE_cons] at h ⊢
        by_cases h7 : 702 = e
        · rw [if_pos h7] at h ⊢; exact h
        · rw [if_neg h7] at h ⊢; rw [lkE_cons, if_neg h7]; exact h
      refine ⟨u', fun k => ∃ e X, lkE ((702, some (Ent.ob l (RecO r (st2 jp) jp))) :: M') e = some X ∧ F' e k, g5, pk_of (fun e he => (g7 e he).trans (k1 e he)) (fun t Y hY => ?_) ⟨fun e X h => g4.hold e X (hl e X h), fun e X k h hk => g4.dead e X k (hl e X h) hk, fun e f X Y k h h' hne hk => g4.apart e f X Y k (hl e X h) (hl f Y h') hne hk⟩, fun k ⟨e, X, h, hk⟩ => g4.dead e X k (hl e X h) hk, fun k ⟨e, X, h, hk⟩ => g6 e X k (hl e X h) hk⟩
      obtain ⟨y, q1, q2⟩ := k2 t Y hY
      exact ⟨y, q1, Y.mono g5.old (Y.ext (fun e he => g7 e (hS e (lk_base hY e he))) q2)⟩
    cases e with
    | normal => exact fin none he.symm
    | ret => exact fin (some .ret) he.symm
    | exit id => exact fin (some (.exit id)) he.symm
    | goto t => exact he.elim
    | panic ch => exact he.elim
    | outgrown => exact he.elim
  | _ => exact hq.elim
theorem InSt.congr {a : Act} {w : World} (h : InSt c n g E a w) (he : ∀ e, lkE E' e = lkE E e) : InSt c n g E' a w := by
  unfold InSt at *
  rw [show lkE E' = lkE E from funext he]
  exact h
def Ctx.put (c : Ctx) (D : Nat) : Ctx := { c with df := { target := .collected D, args := #[] } :: c.df }
def pdo {ι κ : Type} (pd : κ → Code) : ι ⊕ κ → Option Code
  | .inl _ => none
  | .inr q => some (pd q)
def isL {ι κ : Type} : ι ⊕ κ → Bool
  | .inl _ => true
  | .inr _ => false
def Done {ι κ : Type} (P : Program) (Q : Exit → Act → World → Prop) (c : Ctx) (n : Nat) (g : List (Nat × T)) (M : ι → List (Nat × Option Ent)) (N : κ → List (Nat × Option Ent)) (pd : κ → Code) : ι ⊕ κ → List (Nat × Option Ent) → Prop
  | .inl i, E => PN c n (Q .normal) g (E ++ M i)
  | .inr q, E => Tri P (pd q) Q c n g (E ++ N q)
theorem done_go {ι κ : Type} {M : ι → List (Nat × Option Ent)} {N : κ → List (Nat × Option Ent)} {pd : κ → Code} {i : ι} (h : PN c n (Q .normal) g (E ++ M i)) : Done P Q c n g M N pd (.inl i) E := h
theorem done_stop {ι κ : Type} {M : ι → List (Nat × Option Ent)} {N : κ → List (Nat × Option Ent)} {pd : κ → Code} {q : κ} (h : Tri P (pd q) Q c n g (E ++ N q)) : Done P Q c n g M N pd (.inr q) E := h
/-- The loop: what goes on between the rounds; by whom the rounds are called. -/
theorem tri_range {ι κ : Type} {f : FuncId} {Caps : List T} {t p : Nat} {ac bd : Code} {I : List Nat} {R : T} (M : ι → List (Nat × Option Ent)) (N : κ → List (Nat × Option Ent)) (pd : κ → Code) (stp : ι → T → ι ⊕ κ → Prop) (i0 : ι) (fin : ι ⊕ κ)
    (hrd : c.rd = none) (hI : c.I = I) (hX : lk g t = some (T.fn f Caps)) (hen : Enters P f) (hp : p < n) (hg : SubG g' g) (hE : SubE (M i0) ((702, none) :: (701, none) :: E))
    (hit : ∀ (l : Nat) (Z : ι → Ent0) (Y : κ → Ent0), (∀ i X o, stp i X o → YOk P l X (Z i) (isL o) (Sum.elim Z Y o)) → Fn P f (T.c (.func (.yield l) #[] #[]) :: Caps) [(700, Ent.ab (Z i0))] [(700, Ent.ab (Sum.elim Z Y fin))] [] R)
    (hns : ∀ i X o, stp i X o → X.ns = [])
    (hbody : ∀ (l D : Nat) (r : Loop) (c' : Ctx), c'.rd = some l → c'.df = [] → c'.I = I ++ nsOf g' → ∀ i X o, stp i X o → Tri P ac (Exit.then (BR P l bd (some l) (RQ c' n (pdo pd o) ((702, some (Ent.ob l (RecO r .busy none))) :: (701, some (Ent.ob D dfr)) :: Sum.elim M N o))) (fun _ _ _ => False)) c' n ((p, X) :: g') ((702, some (Ent.ob l (RecO r .ready none))) :: (701, some (Ent.ob D dfr)) :: M i))
    (hdone : ∀ (l D : Nat) (o : Obj), Done P Q (c.put D) n g' M N pd fin [(702, some (Ent.ob l o)), (701, some (Ent.ob D dfr))]) : Tri P (.rangeFunc (.tmp t) #[p] ac bd) Q c n g E := fun a w hS => by
  have hF : Fc c.rd = Fence.wide := by rw [hrd]; rfl
  show (Code.rangeFunc (.tmp t) #[p] ac bd).wpIn (Fc c.rd) 0 P Q a w
  rw [hF]
  refine wpIn_rangeFunc fun fn _ => ?_
  let r : Loop := { state := .ready, pending := none, fn := fn, tmps := a.tmps, params := #[p], assign := ac, body := bd, defers := w.heap.size }
  have hS1 := (hS.newOb 701 dfr).newOb 702 (RecO r .ready none)
  obtain ⟨D, hD⟩ : ∃ D, w.heap.size = D := ⟨_, rfl⟩
  obtain ⟨l, hl⟩ : ∃ l, (w.alloc dfr).heap.size = l := ⟨_, rfl⟩
  rw [hD, hl] at hS1
  obtain ⟨w1, hw1⟩ : ∃ w1, (w.alloc dfr).alloc (RecO r .ready none) = w1 := ⟨_, rfl⟩
  rw [hw1] at hS1
  obtain ⟨β, u, F, h1, h2, h3, h4, h5, h6, h7⟩ := hS1
  obtain ⟨v, hv1, cs, hv2, hv3⟩ := h3 t _ hX
  let ZE : ι ⊕ κ → List (Nat × Option Ent) := fun o => (702, some (Ent.ob l (RecO r (st2 (pdo pd o)) (pdo pd o)))) :: (701, some (Ent.ob D dfr)) :: Sum.elim M N o
  let Z0 : ι ⊕ κ → Ent0 := fun o => Pk β (I ++ nsOf g') a.tmps g' (ZE o)
  have hyok : ∀ i X o, stp i X o → YOk P l X (Z0 (.inl i)) (isL o) (Sum.elim (fun i => Z0 (.inl i)) (fun q => Z0 (.inr q)) o) := fun i X o hst => by
    have := yok_round (P := P) (n := n) (β0 := β) (S := I ++ nsOf g') (tmps := a.tmps) (G := g') (M := (701, some (Ent.ob D dfr)) :: M i) (M' := (701, some (Ent.ob D dfr)) :: Sum.elim M N o) (l := l) (p := p) (r := r) (X := X) (pd := pdo pd o) rfl rfl h2 hp (hns i X o hst) (fun e he => List.mem_append_right _ he) (fun c' q1 q2 q3 => hbody l D r c' q1 q2 q3 i X o hst)
    cases o with
    | inl i' => exact this
    | inr q => exact this
  have hcall := hit l (fun i => Z0 (.inl i)) (fun q => Z0 (.inr q)) hyok
  have hlk : ∀ e X, lkE (ZE (.inl i0)) e = some X → ∃ Y, lkE ((702, some (Ent.ob l (RecO r .ready none))) :: (701, some (Ent.ob D dfr)) :: E) e = some Y ∧ Y.le X := fun e X h => by
    have h' : lkE ((702, some (Ent.ob l (RecO r .ready none))) :: (701, some (Ent.ob D dfr)) :: M i0) e = some X := h
    rw [lkE_cons] at h' ⊢
    by_cases q : 702 = e
    · rw [if_pos q] at h' ⊢; exact ⟨_, h', .refl _⟩
    · rw [if_neg q, lkE_cons] at h' ⊢
      by_cases q2 : 701 = e
      · rw [if_pos q2] at h' ⊢; exact ⟨_, h', .refl _⟩
      · rw [if_neg q2] at h' ⊢
        obtain ⟨Y, y1, y2⟩ := subE_lk hE h'
        rw [lkE_cons, if_neg q, lkE_cons, if_neg q2] at y1
        exact ⟨Y, y1, y2⟩
  have hold0 : Hold β u w1 F (lkE (ZE (.inl i0))) := ⟨fun e X h => by obtain ⟨Y, y1, y2⟩ := hlk e X h; exact y2 _ _ _ _ _ (h4.hold e Y y1), fun e X k h hk => by obtain ⟨Y, y1, y2⟩ := hlk e X h; exact h4.dead e Y k y1 hk,
    fun e f X Y k h h' hne hk => by obtain ⟨X1, y1, _⟩ := hlk e X h; obtain ⟨Y1, y2, _⟩ := hlk f Y h'; exact h4.apart e f X1 Y1 k y1 y2 hne hk⟩
  have hg3 : ∀ t X, lk g' t = some X → ∃ v, a.tmps[t]? = some v ∧ X.rep β u v := fun t X h => by
    obtain ⟨Y, y1, y2⟩ := subG_lk hg h
    obtain ⟨v, y3, y4⟩ := h3 t Y y1
    exact ⟨v, y3, y2 _ _ _ y4⟩
  have hpk := pk_of (S := I ++ nsOf g') (β0 := β) (fun _ _ => rfl) hg3 hold0
  have hfz : ∀ k, (∃ e X, lkE (ZE (.inl i0)) e = some X ∧ F e k) → c.own k ∨ c.w0.heap.size ≤ k := fun k ⟨e, X, h, hk⟩ => by
    obtain ⟨Y, y1, _⟩ := hlk e X h
    exact h6 e Y k y1 hk
  have hrun := hcall (.func (.yield l) #[] #[] :: cs) β u w1 (fun _ k => ∃ e X, lkE (ZE (.inl i0)) e = some X ∧ F e k) h5.sub ⟨rfl, hv3⟩ (hold1 (e := 700) (X := Ent.ab (Z0 (.inl i0))) hpk (fun k ⟨e, X, h, hk⟩ => hold0.dead e X k h hk))
  refine ⟨l, [{ target := .collected D, args := #[] }], w1, { target := .fn (.func f) cs.toArray, args := #[.func (.yield l) #[] #[]] }, w1, f, (.func (.yield l) #[] #[] :: cs).toArray, w1, ?_, ?_, fun f' _ => trivial, ?_, fun hd => absurd hd (by decide), callsIn_wide.2 (hrun.mono fun e w3 he => ?_)⟩
  · have := run_enterLoop_outer (P := P) (w := w) fn a.tmps #[p] ac bd
    rw [← hw1, ← hD, ← hl, show (w.alloc dfr).heap.size = w.heap.size + 1 from by simp]
    exact this
  · simp [resolve, rangeCall, Act.eval, hv1, hv2, Deferred.ofValue]
  · show (callFunc f (#[.func (.yield l) #[] #[]] ++ cs.toArray)).run P w1 = _
    rw [hen]
    congr 2
    apply Array.ext'; simp
  obtain ⟨v', rfl, u', β', F', b1, b2, b3, b4, b5⟩ := he
  obtain ⟨β2, Fs2, s1, s2, s3, s4, s5⟩ : (Z0 fin).hold u' w3 (F' 700) := by
    have := b3.hold 700 _ lk1_same
    cases fin with
    | inl i => exact this
    | inr q => exact this
  have hlast : ∀ o : Obj, InSt (c.put D) n g' ((702, some (Ent.ob l o)) :: (701, some (Ent.ob D dfr)) :: Sum.elim M N fin) { a with defers := [{ target := .collected D, args := #[] }] ++ a.defers } (w3.putObj l o) := fun o => by
    have : InSt (c.put D) n g' (ZE fin) { a with defers := [{ target := .collected D, args := #[] }] ++ a.defers } w3 := by
      refine ⟨β2, u', Fs2, by rw [h1]; rfl, h2, s2, ⟨s3, fun e X k h hk => b3.dead 700 _ k lk1_same ((s5 k).2 ⟨e, X, h, hk⟩), s4⟩, h5.trans b2 (fun k ⟨e, _, hk⟩ => hfz k hk), fun e X k h hk => ?_, fun e he => ?_⟩
      · rcases b4 700 _ k lk1_same ((s5 k).2 ⟨e, X, h, hk⟩) with ⟨_, _, hk⟩ | hk
        · exact hfz k hk
        · exact .inr (Nat.le_trans h5.size hk)
      · have h8 : e ∈ c.I := he
        exact (s1 e (List.mem_append_left _ (hI ▸ h8))).trans (h7 e he)
    refine (this.putOb 702 (by show lkE ((702, _) :: _) 702 = _; rw [lkE_cons, if_pos rfl]) o).congr fun e => ?_
    show _ = lkE ((702, some (Ent.ob l o)) :: (702, some (Ent.ob l (RecO r (st2 (pdo pd fin)) (pdo pd fin)))) :: (701, some (Ent.ob D dfr)) :: Sum.elim M N fin) e
    rw [lkE_cons, lkE_cons (E := (702, _) :: _)]
    by_cases q : 702 = e
    · rw [if_pos q, if_pos q]
    · rw [if_neg q, if_neg q, lkE_cons (e := 702), if_neg q]
  have hr3 : w3.heap[l]? = some (RecO r (st2 (pdo pd fin)) (pdo pd fin)) := (s3 702 (Ent.ob l (RecO r (st2 (pdo pd fin)) (pdo pd fin))) (by show lkE ((702, _) :: _) 702 = _; rw [lkE_cons, if_pos rfl])).2
  refine ⟨_, _, run_endLoop hr3 (by cases fin <;> simp [pdo, st2]), ?_⟩
  have hd := hdone l D (.loop { { r with state := st2 (pdo pd fin), pending := pdo pd fin } with state := .exhausted })
  have hl3 := hlast (.loop { { r with state := st2 (pdo pd fin), pending := pdo pd fin } with state := .exhausted })
  cases fin with
  | inl i => exact hd _ _ hl3
  | inr q =>
    have := hd _ _ hl3
    have hF' : Fc (c.put D).rd = Fence.wide := hF
    rw [hF'] at this
    exact this
end
section
variable {P : Program} {c : Ctx} {n : Nat} {g : List (Nat × T)} {E : List (Nat × Option Ent)} {fn : Func} {R : Ending → World → Prop}
/-- A function with such a loop. -/
theorem fn_ofM {f : FuncId} {x : Code} {As : List T} {Ei Eo : List (Nat × Ent)} {N : List Nat} {R : T} (hf : P.funcs[f]? = some fn) (hb : fn.body = some x) (ha : As.length ≤ fn.ntmps)
    (h : ∀ c : Ctx0, c.up.I = nsOf (argl 0 As) ++ nsEnts Ei → Tri P x (bodyPostM Fence.wide 0 P fn (Back c.up Eo N R)) c.up fn.ntmps (argl 0 As) (somes Ei)) : Fn P f As Ei Eo N R := fun vs β u w F hs hr hH => by
  have hl := hr.len
  refine (callsIn_wide.1 (callsIn_of_wp_marks hf hb trivial (h ⟨w, u, Fp F (Names Ei), β, _⟩ rfl _ w ⟨β, u, F, rfl, by simp; omega, fun t X hX => ?_, ?_, Tr.refl hs, fun e X k he hk => .inl ?_, fun _ _ => rfl⟩))).mono fun e w' he => ?_
  · obtain ⟨_, h2⟩ := lk_argl _ _ _ _ hX
    rw [Nat.sub_zero] at h2
    obtain ⟨v, h3, h4⟩ := hr.at h2
    have hlt := (List.getElem?_eq_some_iff.1 h3).1
    exact ⟨v, by simp [Array.getElem?_append, hlt, h3]; simpa [hlt] using h3, h4⟩
  · rw [show lkE (somes Ei) = lk Ei from funext (lkE_somes Ei)]; exact hH
  · rw [lkE_somes] at he
    exact ⟨e, List.mem_map.2 ⟨_, lk_mem he, rfl⟩, hk⟩
  · obtain ⟨v, rfl, u', β', F', h1, h2, h3, h4, h5⟩ := he
    exact ⟨v, rfl, u', β', F', h1, h2, h3, h4, h5⟩
theorem ret_M1 {e : Exit} {D : Nat} (he : e = .ret ∨ e = .normal) (hE : lkE E 701 = some (Ent.ob D dfr)) (hdf : c.df = []) (h : PN c n (bodyPost P fn R .ret) g ((701, some (Ent.ob D (.deferred none))) :: E)) : PN (c.put D) n (bodyPostM Fence.wide 0 P fn R e) g E := fun a w hS => by
  have hk : w.heap[D]? = some dfr := by
    obtain ⟨β, u, F, h1, h2, h3, h4, h5, h6, h7⟩ := hS
    exact (h4.hold 701 (Ent.ob D dfr) hE).2
  have ha : a.defers = [{ target := .collected D, args := #[] }] := by
    obtain ⟨β, u, F, h1, _⟩ := hS
    rw [h1]
    show _ :: c.df = _
    rw [hdf]
  have hS' : InSt c n g ((701, some (Ent.ob D (.deferred none))) :: E) { a with defers := [] } (w.putObj D (.deferred none)) := by
    obtain ⟨β, u, F, h1, h2, h3, h4, h5, h6, h7⟩ := hS.putOb 701 hE (.deferred none)
    exact ⟨β, u, F, hdf.symm, h2, h3, h4, h5, h6, h7⟩
  obtain ⟨hd, v, h1, h2⟩ := h _ _ hS'
  have : LeavesInM Fence.wide 0 P fn a.tmps R a.defers .returning w := by
    rw [ha]
    exact ⟨by simp, .inl ⟨D, _, rfl, run_takeDeferred hk, v, h1, h2⟩⟩
  rcases he with rfl | rfl <;> exact this
theorem pn_off (h : PN c n (bodyPost P fn R .ret) g E) : PN c n (bodyPost P fn R .normal) g E := h
variable {Eo : List (Nat × Ent)} {N I : List Nat} {X : T}
theorem ret0 (hI : c.I = I) (hr : fn.results = #[]) (hX : (T.tup []).le X) (hE : SubE (somes Eo) E) (hok : retOk I Eo N X = true := by kernel_rfl) (hdf : c.df = [] := by rfl) : PN c n (bodyPost P fn (Back c Eo N X) .ret) g E :=
  ret_any hI hok hE hX (hdf := hdf) fun β u w F tmps hs ht hH => by
    refine ⟨.tuple #[], ?_, [], rfl, trivial⟩
    unfold results
    rw [hr]
    simp
end
end Go.Proofs.Ytekghdfbhbhigaa.V
/- The numbers about a centre, one behind another; small things of values. -/
set_option linter.unusedVariables false
set_option maxRecDepth 100000
namespace Go.Proofs.Ytekghdfbhbhigaa.V
open Go.RowKit Mt Nml
theorem ediv_is {M q a : Int} (hM : 0 < M) (h1 : M * a ≤ q) (h2 : q < M * a + M) : q / M = a := by
  have e1 : q / M < a + 1 := Int.ediv_lt_of_lt_mul hM (by rw [Int.add_mul, Int.one_mul, Int.mul_comm]; exact h2)
  have e2 : a ≤ q / M := Int.le_ediv_of_mul_le hM (by rw [Int.mul_comm]; exact h1)
  omega
theorem nth_zero (c : Rat) : nth c 0 = nea c := by
  unfold nth
  split <;> simp
theorem bhd_nth (c : Rat) (k : Nat) : bhd c (nth c k) = nth c (k + 1) := by
  have hM := den_p' c
  have e := nea_eq c
  have h1 := Int.ediv_mul_le (2 * c.num + (c.den : Int)) (b := 2 * (c.den : Int)) (by omega)
  have h2 := Int.lt_ediv_add_one_mul_self (2 * c.num + (c.den : Int)) (b := 2 * (c.den : Int)) (by omega)
  unfold bhd
  simp only [mir_eq, c_lt_int]
  unfold nth
  simp only [int_le_c, eq_iff_iff]
  rw [← e] at h1 h2
  generalize nea c = y at *
  generalize c.num = N at *
  generalize (c.den : Int) = M at *
  have e1 : y * (2 * M) = 2 * (M * y) := by rw [Int.mul_comm y, Int.mul_assoc]
  have e2 : (y + 1) * (2 * M) = 2 * (M * y) + 2 * M := by rw [Int.add_mul, e1]; omega
  rw [e1] at h1
  rw [e2] at h2
  obtain ⟨j, hj⟩ : ∃ j, k = 2 * j ∨ k = 2 * j + 1 := ⟨k / 2, by omega⟩
  have hp : 0 ≤ M * (j : Int) := Int.mul_nonneg (by omega) (by omega)
  have a1 : ∀ z : Int, M * (y + z) = M * y + M * z := fun z => Int.mul_add _ _ _
  have a2 : ∀ z : Int, M * (y - z) = M * y - M * z := fun z => Int.mul_sub _ _ _
  have a3 : M * ((j + 1 : Nat) : Int) = M * (j : Int) + M := by rw [Int.natCast_add, Int.mul_add]; show _ + M * 1 = _; omega
  have a4 : M * ((j : Int) + 1) = M * (j : Int) + M := by rw [Int.mul_add]; omega
  rcases hj with rfl | rfl
  · rw [show (2 * j + 1) / 2 = j by omega, show (2 * j + 1 + 1) / 2 = j + 1 by omega]
    have p1 : ¬ (2 * j % 2 = 1) := by omega
    have p2 : (2 * j + 1) % 2 = 1 := by omega
    by_cases h : M * y ≤ N
    · have v1 : (if (2 * j % 2 = 1 ↔ M * y ≤ N) then y + (j : Int) else y - (j : Int)) = y - (j : Int) := if_neg (by simp [p1, h])
      have v2 : (if ((2 * j + 1) % 2 = 1 ↔ M * y ≤ N) then y + ((j + 1 : Nat) : Int) else y - ((j + 1 : Nat) : Int)) = y + ((j + 1 : Nat) : Int) := if_pos (by simp [p2, h])
      rw [v1, v2, a2, if_neg (by omega), ediv_is (a := y + (j : Int)) hM (by rw [a1]; omega) (by rw [a1]; omega)]
      omega
    · have v1 : (if (2 * j % 2 = 1 ↔ M * y ≤ N) then y + (j : Int) else y - (j : Int)) = y + (j : Int) := if_pos (by simp [p1, h])
      have v2 : (if ((2 * j + 1) % 2 = 1 ↔ M * y ≤ N) then y + ((j + 1 : Nat) : Int) else y - ((j + 1 : Nat) : Int)) = y - ((j + 1 : Nat) : Int) := if_neg (by simp [p2, h])
      rw [v1, v2, a1, if_pos (by omega), ediv_is (a := y - ((j : Int) + 1)) hM (by rw [a2, a4]; omega) (by rw [a2, a4]; omega)]
      omega
  · rw [show (2 * j + 1 + 1) / 2 = j + 1 by omega, show (2 * j + 1 + 1 + 1) / 2 = j + 1 by omega]
    have p1 : (2 * j + 1) % 2 = 1 := by omega
    have p2 : ¬ ((2 * j + 1 + 1) % 2 = 1) := by omega
    by_cases h : M * y ≤ N
    · have v1 : (if ((2 * j + 1) % 2 = 1 ↔ M * y ≤ N) then y + ((j + 1 : Nat) : Int) else y - ((j + 1 : Nat) : Int)) = y + ((j + 1 : Nat) : Int) := if_pos (by simp [p1, h])
      have v2 : (if ((2 * j + 1 + 1) % 2 = 1 ↔ M * y ≤ N) then y + ((j + 1 : Nat) : Int) else y - ((j + 1 : Nat) : Int)) = y - ((j + 1 : Nat) : Int) := if_neg (by simp [p2, h])
      rw [v1, v2, a1, a3, if_pos (by omega), ediv_is (a := y - ((j : Int) + 1)) hM (by rw [a2, a4]; omega) (by rw [a2, a4]; omega)]
      omega
    · have v1 : (if ((2 * j + 1) % 2 = 1 ↔ M * y ≤ N) then y + ((j + 1 : Nat) : Int) else y - ((j + 1 : Nat) : Int)) = y - ((j + 1 : Nat) : Int) := if_neg (by simp [p1, h])
      have v2 : (if ((2 * j + 1 + 1) % 2 = 1 ↔ M * y ≤ N) then y + ((j + 1 : Nat) : Int) else y - ((j + 1 : Nat) : Int)) = y + ((j + 1 : Nat) : Int) := if_pos (by simp [p2, h])
      rw [v1, v2, a2, a3, if_neg (by omega), ediv_is (a := y + (j : Int)) hM (by rw [a1]; omega) (by rw [a1]; omega)]
      omega
theorem fp_st1 {X : T} : (T.fp (T.st [X])).le (T.fp X) := fun β u v ⟨ad, x, e, _, ⟨cs, e1, y, rest, h0, h1, e2, h3⟩, h2⟩ => by
  have hr : rest = [] := h3
  subst hr
  rw [List.append_nil] at e2
  refine ⟨ad, y, e, h0, h1, ?_⟩
  rw [e1, e2] at h2
  simpa [Value.cells] using h2
/-- One's own in a round is another's concern. -/
theorem YOk.le {P : Program} {l : Nat} {X Y : T} {z z' : Ent0} {b : Bool} (h : YOk P l Y z b z') (hl : X.le Y) : YOk P l X z b z' := fun v u w F hs hv hz hd => h v u w F hs (hl _ _ _ hv) hz hd
end Go.Proofs.Ytekghdfbhbhigaa.V
/- Search trees: iterators. -/
set_option linter.unusedVariables false
set_option linter.unusedSimpArgs false
set_option maxRecDepth 100000
namespace Go.Proofs.Ytekghdfbhbhigaa.V
open Go.RowKit Mt Nml
theorem tyYc : Ty Try.prog 153 false 1 := ⟨by kernel_rfl, by kernel_rfl⟩
theorem tyCh : Ty Try.prog 110 true 6 := ⟨by kernel_rfl, by kernel_rfl⟩
theorem fChx : FieldT Try.prog 110 0 0 true 2 := FieldT.mk' tyZ
abbrev T.Y (l : Nat) : T := T.c (.func (.yield l) #[] #[])
/-- A child: a number, a part. -/
abbrev T.Ch (x : Int) (k : Nat) (q : Rat) (m : Nat) : T := T.st [T.Z x k, T.Q q m]
theorem cq_le {x y : Rat} : cq x y ≤ 0 ↔ x ≤ y := by
  unfold cq
  by_cases h : x < y
  · rw [if_pos h]; exact ⟨fun _ => Rat.le_of_lt h, fun _ => by decide⟩
  · rw [if_neg h]
    by_cases h2 : y < x
    · rw [if_pos h2]; exact ⟨fun h => absurd h (by decide), fun h => absurd h (Rat.not_le.2 h2)⟩
    · rw [if_neg h2]; exact ⟨fun _ => Rat.not_lt.1 h2, fun _ => by decide⟩

theorem t_zig1 {l : Nat} {Z : Nat → Ent0} {zf : Ent0} {c : Rat} {k kx K : Nat} (hk : k ≤ 1073741824) (hkx : kx ≤ 1073741824) (hz : ∀ j, j ≤ K → zl (nth c j) ≤ kx) (hY : ∀ j, j < K → YOk Try.prog l (T.Z (nth c j) kx) (Z j) true (Z (j + 1))) (hf : YOk Try.prog l (T.Z (nth c K) kx) (Z K) false zf) : Fn Try.prog 113 [T.Y l, T.fp (T.V c k)] [(700, Ent.ab (Z 0))] [(700, Ent.ab zf)] [] (T.tup []) := by
  refine fn_of Try.func113 rfl (by show 2 ≤ 16; decide) fun cx hcx => ?_
  refine tri_sub (sl 0 rfl (sl 1 rfl sn)) (el 700 rfl en) ?_
  refine tri_seq ?_
  refine tri_reg mixed hcx ?_ _ _
  refine lf rfl tyQ ?_
  refine cb rfl (h := rv_Near (by omega)) (hn := ?_)
  refine mv rfl ?_
  refine ex rfl rfl ?_
  refine ex rfl rfl ?_
  refine nw 15 zeZ ?_
  refine st rfl rfl rfl tyZ rfl ?_
  refine asg rfl ?_
  refine ⟨by kernel_rfl, ?_⟩
  refine nx (sl 0 rfl (sl 1 rfl (sl 3 rfl sn))) (el 700 rfl (el 15 rfl en)) ?_
  refine tri_block ?_
  refine tri_loop (ι := Nat) (fun j => [(0, T.Y l), (1, T.fp (T.V c k)), (3, T.p 15 0)]) (fun j => [(15, some (Ent.box 38 [T.Z (nth c j) kx])), (700, some (Ent.ab (Z j)))]) (fun j => K - j) (fun j => (j ≤ K)) 0 (Nat.zero_le _) (sl 0 rfl (sl 1 rfl (sl 3 rfl sn))) (ew 15 rfl (box_pack1 ((T.le.of (by rw [nth_zero])).trans (z_as (hz 0 (Nat.zero_le _))))) (el 700 rfl en)) ?_
  rintro j hj
  refine tri_sub (sl 0 rfl (sl 1 rfl (sl 3 rfl sn))) (el 15 rfl (el 700 rfl en)) ?_
  refine tri_seq ?_
  refine tri_seq ?_
  rcases Nat.lt_or_ge j K with hlt | hge
  · refine tri_reg mixed hcx ?_ _ _
    refine mv rfl ?_
    refine ld rfl rfl tyZ rfl ?_
    refine yd (e := 700) rfl rfl rfl (hY j hlt) (.refl _) ?_
    refine ⟨by kernel_rfl, ?_⟩
    refine nx (sl 0 rfl (sl 1 rfl (sl 3 rfl (sl 12 rfl sn)))) (el 15 rfl (el 700 rfl en)) ?_
    refine tri_true rfl rfl ?_
    refine tri_skip ?_
    refine nx (sl 0 rfl (sl 1 rfl (sl 3 rfl sn))) (el 15 rfl (el 700 rfl en)) ?_
    refine tri_block ?_
    refine tri_reg mixed hcx ?_ _ _
    refine lf rfl tyQ ?_
    refine ld rfl rfl tyZ rfl ?_
    refine cb rfl (h := t_behind (by omega) (by omega)) (hn := ?_)
    refine st rfl rfl rfl tyZ rfl ?_
    refine ⟨by kernel_rfl, ?_⟩
    refine pn_blk ?_
    exact pn_back (j + 1) (by first | omega | (dsimp only; omega)) (by omega) (sl 0 rfl (sl 1 rfl (sl 3 rfl sn))) (ew 15 rfl (box_pack1 ((T.le.of (by rw [bhd_nth])).trans (z_as (hz (j + 1) (by omega))))) (el 700 rfl en))
  · obtain rfl : j = K := by omega
    refine tri_reg mixed hcx ?_ _ _
    refine mv rfl ?_
    refine ld rfl rfl tyZ rfl ?_
    refine yd (e := 700) rfl rfl rfl (hf) (.refl _) ?_
    refine ⟨by kernel_rfl, ?_⟩
    refine nx (sl 0 rfl (sl 1 rfl (sl 3 rfl (sl 12 rfl sn)))) (el 15 rfl (el 700 rfl en)) ?_
    refine tri_false rfl rfl ?_
    refine tri_exit ?_
    repeat (first | refine pn_then ?_ | refine pn_oth (by decide) ?_)
    refine pn_ex ?_
    refine pn_off ?_
    exact ret0 hcx rfl  (.refl _) (el 700 rfl en)

theorem t_zig {c : Rat} {k : Nat} : Fn Try.prog 89 [T.V c k] [] [] [] (T.fn 113 [T.fp (T.V c k)]) := by
  refine fn_of Try.func89 rfl (by show 1 ≤ 4; decide) fun cx hcx => ?_
  refine tri_sub (sl 0 rfl sn) en ?_
  refine tri_seq ?_
  refine tri_reg mixed hcx ?_ _ _
  refine bx 10 rfl ?_
  refine asg rfl ?_
  refine ⟨by kernel_rfl, ?_⟩
  refine nx (sl 1 rfl sn) (el 10 rfl en) ?_
  refine tri_seq ?_
  refine tri_fzb 1 10 rfl rfl (fun h => Nat.noConfusion h) ?_
  refine tri_as 1 (Z := T.fp (T.V c k)) rfl (fp_st1) ?_
  refine tri_reg mixed hcx ?_ _ _
  refine mf rfl ?_
  refine asg rfl ?_
  refine ⟨by kernel_rfl, ?_⟩
  refine nx (sl 2 rfl sn) en ?_
  refine tri_ret ?_
  repeat (first | refine pn_thenr ?_ | refine pn_blkr ?_)
  exact ret1 hcx rfl (rv_tmp rfl) (.refl _) en

theorem t_within {D : List Int} {L : List (List Int)} {ts : List (Int × Int)} {a b : Int} {k : Nat} {p : Rat} {kp : Nat} (hb : 0 < b) (hk : k ≤ 16777216) (hkp : kp ≤ 17179869184) : Fn Try.prog 56 [T.Tr D L ts a b k, T.V p kp] [] [] [] (T.c (.bool (decide (p ≤ (a : Rat) / (b : Rat))))) := by
  refine fn_of Try.func56 rfl (by show 2 ≤ 16; decide) fun cx hcx => ?_
  refine tri_sub (sl 0 rfl (sl 1 rfl sn)) en ?_
  refine tri_seq ?_
  refine tri_reg mixed hcx ?_ _ _
  refine bxs 10 rfl ?_
  refine bx 11 rfl ?_
  refine asg rfl ?_
  refine ⟨by kernel_rfl, ?_⟩
  refine nx (sl 2 rfl (sl 3 rfl sn)) (el 10 rfl (el 11 rfl en)) ?_
  refine tri_seq ?_
  refine tri_reg mixed hcx ?_ _ _
  refine ld rfl rfl tyQ rfl ?_
  refine fa rfl fTrR 3 ?_
  refine ld rfl rfl tyQ rfl ?_
  refine cb rfl (h := rv_Cmp (by omega) (by omega)) (hn := ?_)
  refine mv rfl ?_
  refine ex rfl rfl ?_
  refine ex rfl rfl ?_
  refine asg rfl ?_
  refine asg rfl ?_
  refine ⟨by kernel_rfl, ?_⟩
  refine nx (sl 5 rfl sn) (el 10 rfl (el 11 rfl en)) ?_
  refine tri_seq ?_
  refine tri_reg mixed hcx ?_ _ _
  refine mv rfl ?_
  refine cle rfl rfl rfl ?_
  refine asg rfl ?_
  refine ⟨by kernel_rfl, ?_⟩
  refine nx (sl 4 rfl sn) (el 10 rfl (el 11 rfl en)) ?_
  refine tri_ret ?_
  repeat (first | refine pn_thenr ?_ | refine pn_blkr ?_)
  exact ret1 hcx rfl (rv_tmp rfl) (.of (by rw [decide_eq_decide.2 cq_le])) en

theorem stCh : StructT Try.prog 110 [T.c (.bool false), T.c (.slice none 0 0), T.c (.bool false), T.c (.slice none 0 0), T.c (.bool false), T.c (.slice none 0 0)] [(0, 2), (2, 4)] := StructT.mk' (zs := [.bool false, .slice none 0 0, .bool false, .slice none 0 0, .bool false, .slice none 0 0])
theorem zeCh : Zero Try.prog 110 [T.c (.bool false), T.c (.slice none 0 0), T.c (.bool false), T.c (.slice none 0 0), T.c (.bool false), T.c (.slice none 0 0)] := zero_of (zs := [.bool false, .slice none 0 0, .bool false, .slice none 0 0, .bool false, .slice none 0 0]) (z := .agg #[.bool false, .slice none 0 0, .bool false, .slice none 0 0, .bool false, .slice none 0 0]) (by kernel_rfl)
theorem getD_snoc {s : List Int} {x : Int} (j : Nat) : (s ++ [x]).getD j 0 = if j = s.length then x else s.getD j 0 := by
  simp only [List.getD_eq_getElem?_getD, List.getElem?_append]
  by_cases h : j < s.length
  · rw [if_pos h, if_neg (by omega)]
  · rw [if_neg h]
    by_cases h2 : j = s.length
    · rw [if_pos h2, h2]; simp
    · rw [if_neg h2, List.getElem?_eq_none (by simp; omega), List.getElem?_eq_none (by omega)]
/-- The part of a child. -/
theorem pt_snoc (D : List Int) (L : List (List Int)) (ts : List (Int × Int)) (s : List Int) (m : Nat) (x : Int) : ptT D L ts s m s.length + ((x : Rat) - ctT D L ts s m (m - s.length) s.length) * ((x : Rat) - ctT D L ts s m (m - s.length) s.length) * stq D (m - s.length) = ptT D L ts (s ++ [x]) m (s.length + 1) := by
  show _ = ptT D L ts (s ++ [x]) m s.length + _
  have e1 : ptT D L ts (s ++ [x]) m s.length = ptT D L ts s m s.length := ptT_ext fun j hj => by rw [getD_snoc, if_neg (by omega)]
  have e2 : ctT D L ts (s ++ [x]) m (m - s.length) s.length = ctT D L ts s m (m - s.length) s.length := ctT_ext fun j hj => by rw [getD_snoc, if_neg (by omega)]
  rw [e1, e2, getD_snoc, if_pos rfl]
theorem zl_snoc {s : List Int} {x : Int} {k : Nat} (h : ∀ j, zl (s.getD j 0) ≤ k) (hx : zl x ≤ k) (j : Nat) : zl ((s ++ [x]).getD j 0) ≤ k := by
  rw [getD_snoc]
  split
  · exact hx
  · exact h j

theorem t_kids1 {D : List Int} {L : List (List Int)} {ts : List (Int × Int)} {a b : Int} {n k : Nat} (h : TrS D L ts n k) {s : List Int} {l : Nat} {Z : Nat → Ent0} {zf : Ent0} {K : Nat} (hb : 0 < b) (hs : s.length + 1 ≤ n) (hz : ∀ j, zl (s.getD j 0) ≤ k) (hx : ∀ j, j ≤ K → zl (nth (ctT D L ts s (n - 1) (n - 1 - s.length) s.length) j) ≤ k) (hw : ∀ j, j < K → ptT D L ts (s ++ [nth (ctT D L ts s (n - 1) (n - 1 - s.length) s.length) j]) (n - 1) (s.length + 1) ≤ (a : Rat) / (b : Rat)) (hY : ∀ j, j < K → YOk Try.prog l (T.Ch (nth (ctT D L ts s (n - 1) (n - 1 - s.length) s.length) j) k (ptT D L ts (s ++ [nth (ctT D L ts s (n - 1) (n - 1 - s.length) s.length) j]) (n - 1) (s.length + 1)) 15100000000) (Z j) true (Z (j + 1))) (hf : (¬ ptT D L ts (s ++ [nth (ctT D L ts s (n - 1) (n - 1 - s.length) s.length) K]) (n - 1) (s.length + 1) ≤ (a : Rat) / (b : Rat) ∧ zf = Z K) ∨ (ptT D L ts (s ++ [nth (ctT D L ts s (n - 1) (n - 1 - s.length) s.length) K]) (n - 1) (s.length + 1) ≤ (a : Rat) / (b : Rat) ∧ YOk Try.prog l (T.Ch (nth (ctT D L ts s (n - 1) (n - 1 - s.length) s.length) K) k (ptT D L ts (s ++ [nth (ctT D L ts s (n - 1) (n - 1 - s.length) s.length) K]) (n - 1) (s.length + 1)) 15100000000) (Z K) false zf)) : Fn Try.prog 88 [T.Y l, T.fp (T.Tr D L ts a b k), T.fp (T.l (cZi k) s), T.fp (T.Q (ptT D L ts s (n - 1) s.length) 15100000000)] [(700, Ent.ab (Z 0))] [(700, Ent.ab zf)] [] (T.tup []) := by
  refine fn_ofM Try.func88 rfl (by show 4 ≤ 33; decide) fun cx hcx => ?_
  refine tri_sub (sl 0 rfl (sl 1 rfl (sl 2 rfl (sl 3 rfl sn)))) (el 700 rfl en) ?_
  have hn12 := h.twelve
  have hkk := h.hk
  have hlL := h.len
  have hn0 := h.pos
  have hnd : ∀ d, n - 1 - d = n - 1 - d := fun _ => rfl
  refine tri_seq ?_
  refine tri_reg mixed hcx ?_ _ _
  refine bx 10 rfl ?_
  refine ⟨by kernel_rfl, ?_⟩
  refine nx (sl 1 rfl (sl 2 rfl (sl 3 rfl (sl 4 rfl sn)))) (el 700 rfl (el 10 rfl en)) ?_
  refine tri_seq ?_
  refine tri_fzb 4 10 rfl rfl (fun h => Nat.noConfusion h) ?_
  refine tri_as 4 (Z := T.fp (T.Y l)) rfl (fp_st1) ?_
  refine tri_reg mixed hcx ?_ _ _
  refine lf rfl tyTr ?_
  refine lf rfl tyZs ?_
  refine ca rfl (h := t_centre h (by omega)) (hn := ?_)
  refine nw 113 zeQ ?_
  refine st rfl rfl rfl tyQ rfl ?_
  refine ⟨by kernel_rfl, ?_⟩
  refine nx (sl 1 rfl (sl 2 rfl (sl 3 rfl (sl 4 rfl (sl 5 rfl sn))))) (el 700 rfl (el 113 rfl en)) ?_
  refine tri_seq ?_
  refine tri_fzb 5 113 rfl rfl (fun h => Nat.noConfusion h) ?_
  refine tri_as 5 (Z := T.fp (T.Q (ctT D L ts s (n - 1) (n - 1 - s.length) s.length) 600000000)) rfl (fp_st1) ?_
  refine tri_reg mixed hcx ?_ _ _
  refine lf rfl tyQ ?_
  refine cb rfl (h := t_zig) (hn := ?_)
  refine ⟨by kernel_rfl, ?_⟩
  refine nx (sl 1 rfl (sl 2 rfl (sl 3 rfl (sl 4 rfl (sl 5 rfl (sl 12 rfl sn)))))) (el 700 rfl en) ?_
  refine tri_block ?_
  refine tri_range (ι := Nat) (κ := Unit) (f := 113) (Caps := [T.fp (T.V (ctT D L ts s (n - 1) (n - 1 - s.length) s.length) 600000000)]) (R := T.tup []) (g' := [(1, T.fp (T.Tr D L ts a b k)), (2, T.fp (T.l (cZi k) s)), (3, T.fp (T.Q (ptT D L ts s (n - 1) s.length) 15100000000)), (4, T.fp (T.Y l)), (5, T.fp (T.Q (ctT D L ts s (n - 1) (n - 1 - s.length) s.length) 600000000))]) (fun j => [(700, some (Ent.ab (Z j)))]) (fun _ => [(700, some (Ent.ab zf))]) (fun _ => .ret) (fun j X o => (j < K ∧ X = T.Z (nth (ctT D L ts s (n - 1) (n - 1 - s.length) s.length) j) k ∧ o = .inl (j + 1)) ∨ (j = K ∧ X = T.Z (nth (ctT D L ts s (n - 1) (n - 1 - s.length) s.length) j) k ∧ o = .inr ())) (0) (.inr ()) rfl hcx rfl (by intro a w; kernel_rfl) (by decide) (sl 1 rfl (sl 2 rfl (sl 3 rfl (sl 4 rfl (sl 5 rfl sn))))) (el 700 rfl en) ?_ ?_ ?_ ?_
  · intro lw W V hW
    exact t_zig1 (Z := W) (zf := V ()) (by omega) (by omega) hx (fun j hj => hW j _ (.inl (j + 1)) (.inl ⟨hj, rfl, rfl⟩)) (hW K _ (.inr ()) (.inr ⟨rfl, rfl, rfl⟩))
  · rintro j X o (⟨_, rfl, _⟩ | ⟨_, rfl, _⟩) <;> rfl
  · rintro lr dB rr c' hrd hdf hcx' j X o (⟨hj, rfl, rfl⟩ | ⟨hj, rfl, rfl⟩)
    · have hwj := hw j hj
      refine tri_reg mixed hcx' ?_ _ _
      refine nw 310 zeZ ?_
      refine st rfl rfl rfl tyZ rfl ?_
      refine ⟨by kernel_rfl, ?_⟩
      refine nx_begin hrd rfl (sl 1 rfl (sl 2 rfl (sl 3 rfl (sl 4 rfl (sl 5 rfl (sl 6 rfl sn)))))) (el 702 rfl (el 701 rfl (el 700 rfl (el 310 rfl en)))) ?_
      refine tri_block ?_
      refine tri_seq ?_
      refine tri_reg mixed hcx' ?_ _ _
      refine lf rfl tyTr ?_
      refine lf rfl tyQ ?_
      refine lf rfl tyQ ?_
      refine lf rfl tyZs ?_
      refine ln slZs rfl ?_
      refine ld rfl rfl tyZ rfl ?_
      refine cb rfl (h := t_grown h (by omega) (by omega) (by omega) (by omega)) (hn := ?_)
      refine nw 417 zeQ ?_
      refine st rfl rfl rfl tyQ rfl ?_
      refine ⟨by kernel_rfl, ?_⟩
      refine nx (sl 1 rfl (sl 4 rfl (sl 6 rfl (sl 7 rfl sn)))) (el 702 rfl (el 701 rfl (el 700 rfl (el 310 rfl (el 417 rfl en))))) ?_
      refine tri_seq ?_
      refine tri_sub (sl 1 rfl (sl 4 rfl (sl 6 rfl (sl 7 rfl sn)))) (el 702 rfl (el 701 rfl (el 700 rfl (el 310 rfl (ew 417 rfl (box_q (q_qb (by rw [hnd]; exact pt_snoc D L ts s (n - 1) (nth (ctT D L ts s (n - 1) (n - 1 - s.length) s.length) j)) (h.pt' (zl_snoc hz (hx j (by omega))) (m := n - 1) (by omega) (by omega)))) en))))) ?_
      refine tri_reg mixed hcx' ?_ _ _
      refine lf rfl tyTr ?_
      refine ld rfl rfl tyQ rfl ?_
      refine cb rfl (h := t_within hb (by omega) (by omega)) (hn := ?_)
      refine nt rfl _ (show (!decide _) = false from by rw [decide_eq_true hwj]; rfl) ?_
      refine mv rfl ?_
      refine lf rfl tyYc ?_ (hg := gd1)
      refine ld rfl rfl tyZ rfl ?_ (hg := gd1)
      refine ld rfl rfl tyQ rfl ?_ (hg := gd1)
      refine bu stCh rfl ?_ (hg := gd1)
      refine yd (e := 700) rfl rfl rfl (hY j hj) (.refl _) ?_ (hg := gd1)
      refine nt rfl _ rfl ?_ (hg := gd1)
      refine pk rfl rfl ?_
      refine ⟨by kernel_rfl, ?_⟩
      refine nx (sl 32 rfl sn) (el 702 rfl (el 701 rfl (el 700 rfl (el 310 rfl (el 417 rfl en))))) ?_
      refine tri_false rfl rfl ?_
      refine tri_skip ?_
      refine pn_blk ?_
      exact rq_go (el 702 rfl (el 701 rfl (el 700 rfl en)))
    · refine tri_reg mixed hcx' ?_ _ _
      refine nw 310 zeZ ?_
      refine st rfl rfl rfl tyZ rfl ?_
      refine ⟨by kernel_rfl, ?_⟩
      refine nx_begin hrd rfl (sl 1 rfl (sl 2 rfl (sl 3 rfl (sl 4 rfl (sl 5 rfl (sl 6 rfl sn)))))) (el 702 rfl (el 701 rfl (el 700 rfl (el 310 rfl en)))) ?_
      refine tri_block ?_
      refine tri_seq ?_
      refine tri_reg mixed hcx' ?_ _ _
      refine lf rfl tyTr ?_
      refine lf rfl tyQ ?_
      refine lf rfl tyQ ?_
      refine lf rfl tyZs ?_
      refine ln slZs rfl ?_
      refine ld rfl rfl tyZ rfl ?_
      refine cb rfl (h := t_grown h (by omega) (by omega) (by omega) (by omega)) (hn := ?_)
      refine nw 417 zeQ ?_
      refine st rfl rfl rfl tyQ rfl ?_
      refine ⟨by kernel_rfl, ?_⟩
      refine nx (sl 1 rfl (sl 4 rfl (sl 6 rfl (sl 7 rfl sn)))) (el 702 rfl (el 701 rfl (el 700 rfl (el 310 rfl (el 417 rfl en))))) ?_
      refine tri_seq ?_
      rcases hf with ⟨hn, hzf⟩ | ⟨hn, hyf⟩
      · rw [← hj] at hn
        refine tri_sub (sl 1 rfl (sl 4 rfl (sl 6 rfl (sl 7 rfl sn)))) (el 702 rfl (el 701 rfl (el 700 rfl (el 310 rfl (ew 417 rfl (box_q (q_qb (by rw [hnd]; exact pt_snoc D L ts s (n - 1) (nth (ctT D L ts s (n - 1) (n - 1 - s.length) s.length) j)) (h.pt' (zl_snoc hz (hx j (by omega))) (m := n - 1) (by omega) (by omega)))) en))))) ?_
        refine tri_reg mixed hcx' ?_ _ _
        refine lf rfl tyTr ?_
        refine ld rfl rfl tyQ rfl ?_
        refine cb rfl (h := t_within hb (by omega) (by omega)) (hn := ?_)
        refine nt rfl _ (show (!decide _) = true from by rw [decide_eq_false hn]; rfl) ?_
        refine mv rfl ?_
        refine j_off rfl rfl rfl rfl ?_
        refine j_off rfl rfl rfl rfl ?_
        refine j_off rfl rfl rfl rfl ?_
        refine j_off rfl rfl rfl rfl ?_
        refine j_off rfl rfl rfl rfl ?_
        refine j_off rfl rfl rfl rfl ?_
        refine pk rfl rfl ?_
        refine ⟨by kernel_rfl, ?_⟩
        refine nx (sl 32 rfl sn) (el 702 rfl (el 701 rfl (el 700 rfl (el 310 rfl (el 417 rfl en))))) ?_
        refine tri_true rfl rfl ?_
        refine tri_ret ?_
        repeat (first | refine pn_thenr ?_ | refine pn_blkr ?_)
        exact rq_ret (el 702 rfl (el 701 rfl (ew 700 rfl (.of (by rw [hzf, hj])) en)))
      · rw [← hj] at hn hyf
        refine tri_sub (sl 1 rfl (sl 4 rfl (sl 6 rfl (sl 7 rfl sn)))) (el 702 rfl (el 701 rfl (el 700 rfl (el 310 rfl (ew 417 rfl (box_q (q_qb (by rw [hnd]; exact pt_snoc D L ts s (n - 1) (nth (ctT D L ts s (n - 1) (n - 1 - s.length) s.length) j)) (h.pt' (zl_snoc hz (hx j (by omega))) (m := n - 1) (by omega) (by omega)))) en))))) ?_
        refine tri_reg mixed hcx' ?_ _ _
        refine lf rfl tyTr ?_
        refine ld rfl rfl tyQ rfl ?_
        refine cb rfl (h := t_within hb (by omega) (by omega)) (hn := ?_)
        refine nt rfl _ (show (!decide _) = false from by rw [decide_eq_true hn]; rfl) ?_
        refine mv rfl ?_
        refine lf rfl tyYc ?_ (hg := gd1)
        refine ld rfl rfl tyZ rfl ?_ (hg := gd1)
        refine ld rfl rfl tyQ rfl ?_ (hg := gd1)
        refine bu stCh rfl ?_ (hg := gd1)
        refine yd (e := 700) rfl rfl rfl (hyf) (.refl _) ?_ (hg := gd1)
        refine nt rfl _ rfl ?_ (hg := gd1)
        refine pk rfl rfl ?_
        refine ⟨by kernel_rfl, ?_⟩
        refine nx (sl 32 rfl sn) (el 702 rfl (el 701 rfl (el 700 rfl (el 310 rfl (el 417 rfl en))))) ?_
        refine tri_true rfl rfl ?_
        refine tri_ret ?_
        repeat (first | refine pn_thenr ?_ | refine pn_blkr ?_)
        exact rq_ret (el 702 rfl (el 701 rfl (el 700 rfl en)))
  · intro lr dB oo
    refine done_stop ?_
    refine tri_ret ?_
    repeat (first | refine pn_thenr ?_ | refine pn_blkr ?_)
    refine ret_M1 (.inl rfl) rfl rfl ?_
    exact ret0 hcx rfl  (.refl _) (el 700 rfl en)

theorem t_kids {D : List Int} {L : List (List Int)} {ts : List (Int × Int)} {a b : Int} {k : Nat} {s : List Int} {q : Rat} {m : Nat} : Fn Try.prog 57 [T.Tr D L ts a b k, T.l (cZi k) s, T.Q q m] [] [] [] (T.fn 88 [T.fp (T.Tr D L ts a b k), T.fp (T.l (cZi k) s), T.fp (T.Q q m)]) := by
  refine fn_of Try.func57 rfl (by show 3 ≤ 8; decide) fun cx hcx => ?_
  refine tri_sub (sl 0 rfl (sl 1 rfl (sl 2 rfl sn))) en ?_
  refine tri_seq ?_
  refine tri_reg mixed hcx ?_ _ _
  refine bxs 10 rfl ?_
  refine bx 11 rfl ?_
  refine bxs 12 rfl ?_
  refine asg rfl ?_
  refine ⟨by kernel_rfl, ?_⟩
  refine nx (sl 3 rfl (sl 4 rfl (sl 5 rfl sn))) (el 10 rfl (el 11 rfl (el 12 rfl en))) ?_
  refine tri_seq ?_
  refine tri_fzb 3 10 rfl rfl (fun h => Nat.noConfusion h) ?_
  refine tri_fzb 4 11 rfl rfl (fun h => Nat.noConfusion h) ?_
  refine tri_as 4 (Z := T.fp (T.l (cZi k) s)) rfl (fp_st1) ?_
  refine tri_fzb 5 12 rfl rfl (fun h => Nat.noConfusion h) ?_
  refine tri_reg mixed hcx ?_ _ _
  refine mf rfl ?_
  refine asg rfl ?_
  refine ⟨by kernel_rfl, ?_⟩
  refine nx (sl 6 rfl sn) en ?_
  refine tri_ret ?_
  repeat (first | refine pn_thenr ?_ | refine pn_blkr ?_)
  exact ret1 hcx rfl (rv_tmp rfl) (.refl _) en
end Go.Proofs.Ytekghdfbhbhigaa.V
/- The nodes of a search tree below a suffix, in their order. -/
set_option linter.unusedVariables false
set_option maxRecDepth 100000
namespace Go.Proofs.Ytekghdfbhbhigaa.V
open Go.RowKit Mt Nml
/-- The first j children with what lies below them. -/
def fl (s : List Int) (x : Nat → Int) (LL : Nat → List (List Int)) : Nat → List (List Int)
  | 0 => []
  | j + 1 => fl s x LL j ++ ((s ++ [x j]) :: LL j)
section
variable (s : List Int) (x : Nat → Int) (LL : Nat → List (List Int))
theorem fl_len (j : Nat) : (fl s x LL (j + 1)).length = (fl s x LL j).length + 1 + (LL j).length := by
  show (fl s x LL j ++ _).length = _
  rw [List.length_append, List.length_cons]; omega
theorem fl_mono {i j : Nat} (h : i ≤ j) : (fl s x LL i).length ≤ (fl s x LL j).length := by
  induction j with
  | zero => rw [show i = 0 by omega]; exact Nat.le_refl _
  | succ j ih =>
    rcases Nat.lt_or_ge i (j + 1) with h1 | h1
    · have := ih (by omega); rw [fl_len]; omega
    · rw [show i = j + 1 by omega]; exact Nat.le_refl _
theorem fl_get {i m : Nat} (h : i < m) (k : Nat) (hk : k < (LL i).length + 1) : (fl s x LL m).getD ((fl s x LL i).length + k) [] = ((s ++ [x i]) :: LL i).getD k [] := by
  induction m with
  | zero => omega
  | succ m ih =>
    show (fl s x LL m ++ ((s ++ [x m]) :: LL m)).getD _ [] = _
    rcases Nat.lt_or_ge i m with h1 | h1
    · have h2 := fl_mono s x LL (show i + 1 ≤ m by omega)
      rw [fl_len] at h2
      rw [← ih h1]
      simp only [List.getD_eq_getElem?_getD]
      rw [List.getElem?_append_left (by omega)]
    · obtain rfl : i = m := by omega
      simp only [List.getD_eq_getElem?_getD]
      rw [List.getElem?_append_right (by omega), Nat.add_sub_cancel_left]
/-- In which child's part a place lies. -/
theorem fl_at {m K : Nat} (h : K ≤ (fl s x LL m).length) : ∃ J, J ≤ m ∧ (fl s x LL J).length ≤ K ∧ (J < m → K < (fl s x LL (J + 1)).length) ∧ (J = m → K = (fl s x LL m).length) := by
  induction m with
  | zero => exact ⟨0, Nat.le_refl _, Nat.zero_le _, fun h => absurd h (Nat.lt_irrefl _), fun _ => by have : (fl s x LL 0).length = 0 := rfl; omega⟩
  | succ m ih =>
    rcases Nat.lt_or_ge K (fl s x LL (m + 1)).length with h1 | h1
    · rcases Nat.lt_or_ge K (fl s x LL m).length with h2 | h2
      · obtain ⟨J, k1, k2, k3, k4⟩ := ih (by omega)
        rcases Nat.lt_or_ge J m with h3 | h3
        · exact ⟨J, by omega, k2, fun _ => k3 h3, fun h => by omega⟩
        · have := k4 (by omega); omega
      · exact ⟨m, by omega, h2, fun _ => h1, fun h => by omega⟩
    · exact ⟨m + 1, Nat.le_refl _, h1, fun h => absurd h (Nat.lt_irrefl _), fun _ => by omega⟩
end
/-- These are the nodes below a suffix of d numbers, in the order of the tree. -/
inductive Bel (D : List Int) (L : List (List Int)) (ts : List (Int × Int)) (n k : Nat) (R : Rat) : List Int → Nat → List (List Int) → Prop
  | leaf (s : List Int) : Bel D L ts n k R s n []
  | node (s : List Int) (d m : Nat) (LL : Nat → List (List Int)) (hd : d < n)
      (hz : ∀ j, j ≤ m → zl (nth (ctT D L ts s (n - 1) (n - 1 - d) d) j) ≤ k)
      (hw : ∀ j, j < m → ptT D L ts (s ++ [nth (ctT D L ts s (n - 1) (n - 1 - d) d) j]) (n - 1) (d + 1) ≤ R)
      (hn : ¬ ptT D L ts (s ++ [nth (ctT D L ts s (n - 1) (n - 1 - d) d) m]) (n - 1) (d + 1) ≤ R)
      (hB : ∀ j, j < m → Bel D L ts n k R (s ++ [nth (ctT D L ts s (n - 1) (n - 1 - d) d) j]) (d + 1) (LL j)) : Bel D L ts n k R s d (fl s (nth (ctT D L ts s (n - 1) (n - 1 - d) d)) LL m)
end Go.Proofs.Ytekghdfbhbhigaa.V
/- Search trees: the nodes below a suffix. -/
set_option linter.unusedVariables false
set_option linter.unusedSimpArgs false
set_option maxRecDepth 100000
namespace Go.Proofs.Ytekghdfbhbhigaa.V
open Go.RowKit Mt Nml
end Go.Proofs.Ytekghdfbhbhigaa.V
/- How many nodes have how many numbers. -/
set_option linter.unusedVariables false
set_option maxRecDepth 100000
namespace Go.Proofs.Ytekghdfbhbhigaa.V
open Go.RowKit Mt Nml
theorem Bel.len {D : List Int} {L : List (List Int)} {ts : List (Int × Int)} {n k : Nat} {R : Rat} {s : List Int} {d : Nat} {ns : List (List Int)} (h : Bel D L ts n k R s d ns) : s.length = d → ∀ i, i < ns.length → d < (ns.getD i []).length ∧ (ns.getD i []).length ≤ n := by
  induction h with
  | leaf s => exact fun _ i hi => absurd hi (Nat.not_lt_zero _)
  | node s d m LL hd hz hw hn hB ih =>
    intro hs i hi
    subst hs
    obtain ⟨J, k1, k2, k3, k4⟩ := fl_at s (nth (ctT D L ts s (n - 1) (n - 1 - s.length) s.length)) LL (Nat.le_of_lt hi)
    have hJ : J < m := by
      rcases Nat.lt_or_ge J m with h | h
      · exact h
      · have := k4 (by omega); omega
    have k5 := k3 hJ
    rw [fl_len] at k5
    have h1 := fl_get s (nth (ctT D L ts s (n - 1) (n - 1 - s.length) s.length)) LL hJ (i - (fl s (nth (ctT D L ts s (n - 1) (n - 1 - s.length) s.length)) LL J).length) (by omega)
    rw [show (fl s (nth (ctT D L ts s (n - 1) (n - 1 - s.length) s.length)) LL J).length + (i - (fl s (nth (ctT D L ts s (n - 1) (n - 1 - s.length) s.length)) LL J).length) = i by omega] at h1
    rw [h1]
    rcases Nat.eq_zero_or_pos (i - (fl s (nth (ctT D L ts s (n - 1) (n - 1 - s.length) s.length)) LL J).length) with h0 | h0
    · rw [h0]
      show s.length < (s ++ [_]).length ∧ (s ++ [_]).length ≤ n
      rw [List.length_append]
      exact ⟨Nat.lt_succ_self _, hd⟩
    · obtain ⟨i', hi'⟩ : ∃ i', i - (fl s (nth (ctT D L ts s (n - 1) (n - 1 - s.length) s.length)) LL J).length = i' + 1 := ⟨i - (fl s (nth (ctT D L ts s (n - 1) (n - 1 - s.length) s.length)) LL J).length - 1, by omega⟩
      rw [hi']
      have := ih J hJ (by simp) i' (by omega)
      exact ⟨by have := this.1; show s.length < ((LL J).getD i' []).length; omega, this.2⟩
end Go.Proofs.Ytekghdfbhbhigaa.V
/- Search trees: nodes counted. -/
set_option linter.unusedVariables false
set_option linter.unusedSimpArgs false
set_option maxRecDepth 100000
namespace Go.Proofs.Ytekghdfbhbhigaa.V
open Go.RowKit Mt Nml
theorem t_counted {D : List Int} {L : List (List Int)} {ts : List (Int × Int)} {a b : Int} {n k : Nat} (h : TrS D L ts n k) {s : List Int} (hb : 0 < b) (ha : 0 ≤ a) {m mo : Nat} (hs : s.length ≤ m) (hsl : s.length ≤ 1048576) (hmo : mo ≤ 65536) : Fn Try.prog 54 [T.Tr D L ts a b k, T.l (cZi k) s, T.c (.int .i64 (m : Int)), T.c (.int .i64 (mo : Int))] [] [] [] (T.c (.int .i64 0)) := by
  refine fn_of Try.func54 rfl (by show 4 ≤ 23; decide) fun cx hcx => ?_
  refine tri_sub (sl 0 rfl (sl 1 rfl (sl 2 rfl (sl 3 rfl sn)))) en ?_
  refine tri_seq ?_
  refine tri_reg mixed hcx ?_ _ _
  refine bxs 10 rfl ?_
  refine asg rfl ?_
  refine ⟨by kernel_rfl, ?_⟩
  refine nx (sl 1 rfl (sl 2 rfl (sl 3 rfl (sl 4 rfl sn)))) (el 10 rfl en) ?_
  refine tri_seq ?_
  refine tri_seq ?_
  refine tri_reg mixed hcx ?_ _ _
  refine ld rfl rfl tyTr rfl ?_
  refine mv rfl ?_
  refine mv rfl ?_
  refine ca rfl (h := t_fits h hb ha (m := m) (by omega) (by omega)) (hn := ?_)
  refine asg rfl ?_
  refine ⟨by kernel_rfl, ?_⟩
  refine nx (sl 3 rfl (sl 9 rfl sn)) (el 10 rfl en) ?_
  refine tri_seq ?_
  refine tri_reg mixed hcx ?_ _ _
  refine mv rfl ?_
  refine cne rfl rfl (decide_eq_false (by omega)) ?_
  refine ⟨by kernel_rfl, ?_⟩
  refine nx (sl 3 rfl (sl 9 rfl (sl 15 rfl sn))) (el 10 rfl en) ?_
  refine tri_false rfl rfl ?_
  refine tri_skip ?_
  refine nx (sl 3 rfl sn) (el 10 rfl en) ?_
  refine tri_seq ?_
  refine tri_seq ?_
  refine tri_reg mixed hcx ?_ _ _
  refine mv rfl ?_
  refine clt rfl rfl (decide_eq_false (by omega)) ?_
  refine mv rfl ?_
  refine mv rfl ?_ (hg := gd1)
  refine cgt rfl rfl (decide_eq_false (by omega)) ?_ (hg := gd1)
  refine pk rfl rfl ?_
  refine ⟨by kernel_rfl, ?_⟩
  refine nx (sl 22 rfl sn) (el 10 rfl en) ?_
  refine tri_false rfl rfl ?_
  refine tri_skip ?_
  refine nx sn (el 10 rfl en) ?_
  refine tri_seq ?_
  refine tri_reg mixed hcx ?_ _ _
  refine asg rfl ?_
  refine ⟨by kernel_rfl, ?_⟩
  refine nx (sl 8 rfl sn) (el 10 rfl en) ?_
  refine tri_ret ?_
  repeat (first | refine pn_thenr ?_ | refine pn_blkr ?_)
  exact ret1 hcx rfl (rv_tmp rfl) (.refl _) en

end Go.Proofs.Ytekghdfbhbhigaa.V
/- Search trees: the call whose answer is known. -/
set_option linter.unusedVariables false
set_option linter.unusedSimpArgs false
set_option maxRecDepth 100000
namespace Go.Proofs.Ytekghdfbhbhigaa.V
open Go.RowKit Mt Nml
section
variable {P : Program} {ops : Array Oper} {fin : List OpS → List (Nat × T) → List (Nat × Option Ent) → Prop} {r : List Oper} {H : List OpS} {g : List (Nat × T)} {E : List (Nat × Option Ent)} {o : Oper}
variable {t : Option Nat} {ty : TypeId} {ps : String} {af : Array Edge} {gd : Option (Nat × Bool)} {x y : Operand} {X Y : T} {e off m : Nat} {b : Bool} {l l' : List T} {et : TypeId}
/-- A slice without elements. -/
theorem bs0 {α : Type} {τ : TypeId} {sz bytes : Nat} (c : Cod α) (hT : SlT P et τ sz bytes) (hn : J P ops fin r (OpS.p (T.l c []) :: H) (putg t (T.l c []) g) E) (hg : GuardIs ops g ⟨t, .buildSlice et 0 #[], ty, ps, af, gd⟩ true := by exact gd0) : J P ops fin (⟨t, .buildSlice et 0 #[], ty, ps, af, gd⟩ :: r) H g E :=
  j_val hg (fun ρ β u w F hs he hH => by
    obtain ⟨ht, inf, z, hi, hz0, hz1, hz2, hzc⟩ := hT.info
    have hsf : (sizeOf τ).run P w = .ok sz w := by simp [sizeOf, typeInfo, hi, hz1]
    have hr : (Instr.buildSlice et 0 #[]).run P w = .ok (.slice (some ⟨w.heap.size, 0, none⟩) 0 0) (w.alloc (.cells #[] τ (0, 0))) := by
      unfold Instr.buildSlice
      simp only [Sem.run_bind, run_underlying ht, Result.andThen_ok, hsf]
      rw [if_neg (by omega)]
      simp [newRow, Instr.fill]
      rw [Array.eq_empty_of_size_eq_zero (show (Array.map (fun _ : Nat => (default : Value)) (Array.range 0)).size = 0 by simp)]
    unfold Res
    simp only [execOp, Array.map_empty, Sem.run_bind, hr, Result.andThen_ok, Sem.run_pure]
    exact ⟨u, β, F, fun _ _ => rfl, tr_alloc hs _, Hold.none _ _ _ _, (fun e X k h => by cases h), _, 0, 0, rfl, rfl, Nat.le_refl _, by omega, fun h => absurd h (by omega)⟩) hn
end
theorem tr_flat {A B C D E : T} : (T.st [T.st [A, B], C, T.st [D, E]]).le (T.st [A, B, C, D, E]) := fun β u v ⟨cs, e, v1, r1, _, ⟨cs1, e1, c1⟩, e2, v2, r2, h2, hv2, e3, v3, r3, _, ⟨cs3, e4, c3⟩, e5, e6⟩ => by
  refine ⟨cs, e, ?_⟩
  have h6 : r3 = [] := e6
  subst e1 e4 h6
  have hc : Cells β u ([C] ++ [D, E]) (v2.cells.toList ++ cs3) := Cells.append (l := [C]) ⟨v2, [], h2, hv2, (List.append_nil _).symm, rfl⟩ c3
  have := Cells.append c1 hc
  rw [e2, e3, e5]
  simpa [Value.cells] using this
theorem stTr : StructT Try.prog 42 [T.c (.slice none 0 0), T.c (.slice none 0 0), T.c (.slice none 0 0), T.c (.bool false), T.c (.slice none 0 0), T.c (.bool false), T.c (.slice none 0 0)] [(0, 2), (2, 1), (3, 4)] := StructT.mk' (zs := [.slice none 0 0, .slice none 0 0, .slice none 0 0, .bool false, .slice none 0 0, .bool false, .slice none 0 0])
theorem zeTr : Zero Try.prog 42 [T.c (.slice none 0 0), T.c (.slice none 0 0), T.c (.slice none 0 0), T.c (.bool false), T.c (.slice none 0 0), T.c (.bool false), T.c (.slice none 0 0)] := zero_of (zs := [.slice none 0 0, .slice none 0 0, .slice none 0 0, .bool false, .slice none 0 0, .bool false, .slice none 0 0]) (z := .agg #[.slice none 0 0, .slice none 0 0, .slice none 0 0, .bool false, .slice none 0 0, .bool false, .slice none 0 0]) (by kernel_rfl)

abbrev D0 : List Int := [1, 1, 1]
abbrev L0 : List (List Int) := [[], [0]]
theorem small_T : TrS D0 L0 [] 2 2 where
  good := ⟨by decide, by decide, by decide, fun i hi => by match i, hi with | 0, _ => decide | 1, _ => decide⟩
  len := rfl
  twelve := by decide
  tl := .inl rfl
  tp := fun i hi => absurd hi (Nat.not_lt_zero _)
  zt := fun i hi => absurd hi (Nat.not_lt_zero _)
  zD := fun j => by
    match j with
    | 0 => exact Nat.le_trans zl_one (by decide)
    | 1 => exact Nat.le_trans zl_one (by decide)
    | 2 => exact Nat.le_trans zl_one (by decide)
    | j + 3 => rw [show D0.getD (j + 3) 0 = 0 from rfl, zl_zero]; decide
  zL := fun i j => by
    have : ((L0.getD j [] : List Int).getD i 0) = 0 := by
      match j, i with
      | 0, _ => rfl
      | 1, 0 => rfl
      | 1, i + 1 => rfl
      | j + 2, _ => rfl
    rw [this, zl_zero]; decide
  hk := by decide
def chk (s : List Int) (d m : Nat) : Bool := (List.range (m + 1)).all fun j => decide (-9 ≤ nth (ctT D0 L0 [] s (2 - 1) (2 - 1 - d) d) j) && decide (nth (ctT D0 L0 [] s (2 - 1) (2 - 1 - d) d) j ≤ 9) && (decide (ptT D0 L0 [] (s ++ [nth (ctT D0 L0 [] s (2 - 1) (2 - 1 - d) d) j]) (2 - 1) (d + 1) ≤ ((1 : Int) : Rat) / ((1 : Int) : Rat)) == decide (j < m))
end Go.Proofs.Ytekghdfbhbhigaa.V
/- Search trees: nearer numbers come first. -/
set_option linter.unusedVariables false
set_option linter.unusedSimpArgs false
set_option maxRecDepth 100000
namespace Go.Proofs.Ytekghdfbhbhigaa.V
open Go.RowKit Mt Nml
end Go.Proofs.Ytekghdfbhbhigaa.V
/- Search trees: the document's numbers about a centre. -/
set_option linter.unusedVariables false
set_option linter.unusedSimpArgs false
set_option maxRecDepth 100000
namespace Go.Proofs.Ytekghdfbhbhigaa.V
open Go.RowKit Mt Nml
end Go.Proofs.Ytekghdfbhbhigaa.V
/- Search trees: what is no tree, what is too long. -/
set_option linter.unusedVariables false
set_option linter.unusedSimpArgs false
set_option maxRecDepth 100000
namespace Go.Proofs.Ytekghdfbhbhigaa.V
open Go.RowKit Mt Nml
/-- A tree that may be. -/
def TrV (D : List Int) (L : List (List Int)) (ts : List (Int × Int)) (a b : Int) : Prop := GoodP D L ∧ L.length ≤ 12 ∧ (ts.length = 0 ∨ ts.length = L.length) ∧ (∀ i, i < ts.length → 0 < (ts.getD i (0, 0)).2) ∧ 0 < b ∧ 0 ≤ a
theorem least_bad {P : Nat → Prop} : ∀ {n : Nat}, (¬ ∀ i, i < n → P i) → ∃ w, w < n ∧ ¬ P w ∧ ∀ i, i < w → P i
  | 0, h => absurd (fun i hi => absurd hi (Nat.not_lt_zero _)) h
  | n + 1, h => by
    classical
    by_cases h1 : ∀ i, i < n → P i
    · refine ⟨n, Nat.lt_succ_self _, fun hp => h fun i hi => ?_, h1⟩
      rcases Nat.lt_or_eq_of_le (Nat.le_of_lt_succ hi) with h2 | h2
      · exact h1 i h2
      · rw [h2]; exact hp
    · obtain ⟨w, k1, k2, k3⟩ := least_bad h1
      exact ⟨w, by omega, k2, k3⟩

theorem t_Valid_c1 {D : List Int} {L : List (List Int)} {ts : List (Int × Int)} {a b : Int} {k : Nat} (hk : k ≤ 16777216) (hLl : L.length ≤ 1048576) (hDl : D.length ≤ 1048576) (htl : ts.length ≤ 1048576) (hn : 12 < L.length) : Fn Try.prog 24 [T.Tr D L ts a b k] [] [] [] (T.c (.int .i64 110)) := by
  refine fn_of Try.func24 rfl (by show 1 ≤ 61; decide) fun cx hcx => ?_
  refine tri_sub (sl 0 rfl sn) en ?_
  refine tri_seq ?_
  refine tri_reg mixed hcx ?_ _ _
  refine bxs 10 rfl ?_
  refine asg rfl ?_
  refine ⟨by kernel_rfl, ?_⟩
  refine nx (sl 1 rfl sn) (el 10 rfl en) ?_
  refine tri_seq ?_
  refine tri_reg mixed hcx ?_ _ _
  refine fa rfl fTrG 0 ?_
  refine fa rfl fL 1 ?_
  refine ld rfl rfl tyZss rfl ?_
  refine ln slZss rfl ?_
  refine asg rfl ?_
  refine ⟨by kernel_rfl, ?_⟩
  refine nx (sl 1 rfl (sl 3 rfl sn)) (el 10 rfl en) ?_
  refine tri_seq ?_
  refine tri_seq ?_
  refine tri_reg mixed hcx ?_ _ _
  refine mv rfl ?_
  refine cgt rfl rfl (decide_eq_true (by omega)) ?_
  refine mv rfl ?_
  refine j_off rfl rfl rfl rfl ?_
  refine j_off rfl rfl rfl rfl ?_
  refine j_off rfl rfl rfl rfl ?_
  refine j_off rfl rfl rfl rfl ?_
  refine j_off rfl rfl rfl rfl ?_
  refine j_ofu rfl rfl rfl ?_
  refine j_ofu rfl rfl rfl ?_
  refine j_ofu rfl rfl rfl ?_
  refine j_ofu rfl rfl rfl ?_
  refine j_ofu rfl rfl rfl ?_
  refine j_off rfl rfl rfl rfl ?_
  refine pk rfl rfl ?_
  refine mv rfl ?_
  refine j_off rfl rfl rfl rfl ?_
  refine j_off rfl rfl rfl rfl ?_
  refine j_off rfl rfl rfl rfl ?_
  refine j_off rfl rfl rfl rfl ?_
  refine j_off rfl rfl rfl rfl ?_
  refine pk rfl rfl ?_
  refine mv rfl ?_
  refine j_off rfl rfl rfl rfl ?_
  refine j_off rfl rfl rfl rfl ?_
  refine j_off rfl rfl rfl rfl ?_
  refine j_off rfl rfl rfl rfl ?_
  refine j_off rfl rfl rfl rfl ?_
  refine pk rfl rfl ?_
  refine ⟨by kernel_rfl, ?_⟩
  refine nx (sl 1 rfl (sl 40 rfl sn)) (el 10 rfl en) ?_
  refine tri_true rfl rfl ?_
  refine tri_seq ?_
  refine tri_reg mixed hcx ?_ _ _
  refine asg rfl ?_
  refine ⟨by kernel_rfl, ?_⟩
  refine nx (sl 2 rfl sn) (el 10 rfl en) ?_
  refine tri_ret ?_
  repeat (first | refine pn_thenr ?_ | refine pn_blkr ?_)
  exact ret1 hcx rfl (rv_tmp rfl) (.refl _) en

theorem t_Valid_c2 {D : List Int} {L : List (List Int)} {ts : List (Int × Int)} {a b : Int} {k : Nat} (hk : k ≤ 16777216) (hLl : L.length ≤ 1048576) (hDl : D.length ≤ 1048576) (htl : ts.length ≤ 1048576) (hn : L.length ≤ 12) (h1 : ts.length ≠ 0) (h2 : ts.length ≠ L.length) : Fn Try.prog 24 [T.Tr D L ts a b k] [] [] [] (T.c (.int .i64 110)) := by
  refine fn_of Try.func24 rfl (by show 1 ≤ 61; decide) fun cx hcx => ?_
  refine tri_sub (sl 0 rfl sn) en ?_
  refine tri_seq ?_
  refine tri_reg mixed hcx ?_ _ _
  refine bxs 10 rfl ?_
  refine asg rfl ?_
  refine ⟨by kernel_rfl, ?_⟩
  refine nx (sl 1 rfl sn) (el 10 rfl en) ?_
  refine tri_seq ?_
  refine tri_reg mixed hcx ?_ _ _
  refine fa rfl fTrG 0 ?_
  refine fa rfl fL 1 ?_
  refine ld rfl rfl tyZss rfl ?_
  refine ln slZss rfl ?_
  refine asg rfl ?_
  refine ⟨by kernel_rfl, ?_⟩
  refine nx (sl 1 rfl (sl 3 rfl sn)) (el 10 rfl en) ?_
  refine tri_seq ?_
  refine tri_seq ?_
  refine tri_reg mixed hcx ?_ _ _
  refine mv rfl ?_
  refine cgt rfl rfl (decide_eq_false (by omega)) ?_
  refine mv rfl ?_
  refine fa rfl fTrT 2 ?_ (hg := gd1)
  refine ld rfl rfl tyQs rfl ?_ (hg := gd1)
  refine ln slQs rfl ?_ (hg := gd1)
  refine cne rfl rfl (decide_eq_true (by omega)) ?_ (hg := gd1)
  refine mv rfl ?_ (hg := gd1)
  refine fa rfl fTrT 2 ?_ (hg := gd1)
  refine ld rfl rfl tyQs rfl ?_ (hg := gd1)
  refine ln slQs rfl ?_ (hg := gd1)
  refine mv rfl ?_ (hg := gd1)
  refine cne rfl rfl (decide_eq_true (by omega)) ?_ (hg := gd1)
  refine pk rfl rfl ?_ (hg := gd1)
  refine pk rfl rfl ?_
  refine mv rfl ?_
  refine j_off rfl rfl rfl rfl ?_
  refine j_off rfl rfl rfl rfl ?_
  refine j_off rfl rfl rfl rfl ?_
  refine j_off rfl rfl rfl rfl ?_
  refine j_off rfl rfl rfl rfl ?_
  refine pk rfl rfl ?_
  refine mv rfl ?_
  refine j_off rfl rfl rfl rfl ?_
  refine j_off rfl rfl rfl rfl ?_
  refine j_off rfl rfl rfl rfl ?_
  refine j_off rfl rfl rfl rfl ?_
  refine j_off rfl rfl rfl rfl ?_
  refine pk rfl rfl ?_
  refine ⟨by kernel_rfl, ?_⟩
  refine nx (sl 1 rfl (sl 40 rfl sn)) (el 10 rfl en) ?_
  refine tri_true rfl rfl ?_
  refine tri_seq ?_
  refine tri_reg mixed hcx ?_ _ _
  refine asg rfl ?_
  refine ⟨by kernel_rfl, ?_⟩
  refine nx (sl 2 rfl sn) (el 10 rfl en) ?_
  refine tri_ret ?_
  repeat (first | refine pn_thenr ?_ | refine pn_blkr ?_)
  exact ret1 hcx rfl (rv_tmp rfl) (.refl _) en

theorem t_Valid_c3 {D : List Int} {L : List (List Int)} {ts : List (Int × Int)} {a b : Int} {k : Nat} (hk : k ≤ 16777216) (hLl : L.length ≤ 1048576) (hDl : D.length ≤ 1048576) (htl : ts.length ≤ 1048576) (hn : L.length ≤ 12) (ht : ts.length = 0 ∨ ts.length = L.length) (hb : ¬ 0 < b) : Fn Try.prog 24 [T.Tr D L ts a b k] [] [] [] (T.c (.int .i64 110)) := by
  refine fn_of Try.func24 rfl (by show 1 ≤ 61; decide) fun cx hcx => ?_
  refine tri_sub (sl 0 rfl sn) en ?_
  have hsb : sg b ≤ 0 := by rcases Int.lt_trichotomy b 0 with h | h | h; rw [sg_neg h]; decide; rw [h, sg_zero]; omega; omega
  refine tri_seq ?_
  refine tri_reg mixed hcx ?_ _ _
  refine bxs 10 rfl ?_
  refine asg rfl ?_
  refine ⟨by kernel_rfl, ?_⟩
  refine nx (sl 1 rfl sn) (el 10 rfl en) ?_
  refine tri_seq ?_
  refine tri_reg mixed hcx ?_ _ _
  refine fa rfl fTrG 0 ?_
  refine fa rfl fL 1 ?_
  refine ld rfl rfl tyZss rfl ?_
  refine ln slZss rfl ?_
  refine asg rfl ?_
  refine ⟨by kernel_rfl, ?_⟩
  refine nx (sl 1 rfl (sl 3 rfl sn)) (el 10 rfl en) ?_
  refine tri_seq ?_
  refine tri_seq ?_
  by_cases htz : ts.length = 0
  · refine tri_reg mixed hcx ?_ _ _
    refine mv rfl ?_
    refine cgt rfl rfl (decide_eq_false (by omega)) ?_
    refine mv rfl ?_
    refine fa rfl fTrT 2 ?_ (hg := gd1)
    refine ld rfl rfl tyQs rfl ?_ (hg := gd1)
    refine ln slQs rfl ?_ (hg := gd1)
    refine cne rfl rfl (decide_eq_false (by omega)) ?_ (hg := gd1)
    refine mv rfl ?_ (hg := gd1)
    refine j_off rfl rfl rfl rfl ?_
    refine j_off rfl rfl rfl rfl ?_
    refine j_off rfl rfl rfl rfl ?_
    refine j_off rfl rfl rfl rfl ?_
    refine j_off rfl rfl rfl rfl ?_
    refine pk rfl rfl ?_ (hg := gd1)
    refine pk rfl rfl ?_
    refine mv rfl ?_
    refine fa rfl fTrR 3 ?_ (hg := gd1)
    refine fa rfl fDen 5 ?_ (hg := gd1)
    refine ld rfl rfl tyZ rfl ?_ (hg := gd1)
    refine ca rfl (h := zi_Sign (by omega)) (hn := ?_) (hg := gd1)
    refine cle rfl rfl (decide_eq_true (by omega)) ?_ (hg := gd1)
    refine pk rfl rfl ?_
    refine mv rfl ?_
    refine j_off rfl rfl rfl rfl ?_
    refine j_off rfl rfl rfl rfl ?_
    refine j_off rfl rfl rfl rfl ?_
    refine j_off rfl rfl rfl rfl ?_
    refine j_off rfl rfl rfl rfl ?_
    refine pk rfl rfl ?_
    refine ⟨by kernel_rfl, ?_⟩
    refine nx (sl 1 rfl (sl 40 rfl sn)) (el 10 rfl en) ?_
    refine tri_true rfl rfl ?_
    refine tri_seq ?_
    refine tri_reg mixed hcx ?_ _ _
    refine asg rfl ?_
    refine ⟨by kernel_rfl, ?_⟩
    refine nx (sl 2 rfl sn) (el 10 rfl en) ?_
    refine tri_ret ?_
    repeat (first | refine pn_thenr ?_ | refine pn_blkr ?_)
    exact ret1 hcx rfl (rv_tmp rfl) (.refl _) en
  · have htn : ts.length = L.length := by rcases ht with h | h <;> omega
    refine tri_reg mixed hcx ?_ _ _
    refine mv rfl ?_
    refine cgt rfl rfl (decide_eq_false (by omega)) ?_
    refine mv rfl ?_
    refine fa rfl fTrT 2 ?_ (hg := gd1)
    refine ld rfl rfl tyQs rfl ?_ (hg := gd1)
    refine ln slQs rfl ?_ (hg := gd1)
    refine cne rfl rfl (decide_eq_true (by omega)) ?_ (hg := gd1)
    refine mv rfl ?_ (hg := gd1)
    refine fa rfl fTrT 2 ?_ (hg := gd1)
    refine ld rfl rfl tyQs rfl ?_ (hg := gd1)
    refine ln slQs rfl ?_ (hg := gd1)
    refine mv rfl ?_ (hg := gd1)
    refine cne rfl rfl (decide_eq_false (by omega)) ?_ (hg := gd1)
    refine pk rfl rfl ?_ (hg := gd1)
    refine pk rfl rfl ?_
    refine mv rfl ?_
    refine fa rfl fTrR 3 ?_ (hg := gd1)
    refine fa rfl fDen 5 ?_ (hg := gd1)
    refine ld rfl rfl tyZ rfl ?_ (hg := gd1)
    refine ca rfl (h := zi_Sign (by omega)) (hn := ?_) (hg := gd1)
    refine cle rfl rfl (decide_eq_true (by omega)) ?_ (hg := gd1)
    refine pk rfl rfl ?_
    refine mv rfl ?_
    refine j_off rfl rfl rfl rfl ?_
    refine j_off rfl rfl rfl rfl ?_
    refine j_off rfl rfl rfl rfl ?_
    refine j_off rfl rfl rfl rfl ?_
    refine j_off rfl rfl rfl rfl ?_
    refine pk rfl rfl ?_
    refine ⟨by kernel_rfl, ?_⟩
    refine nx (sl 1 rfl (sl 40 rfl sn)) (el 10 rfl en) ?_
    refine tri_true rfl rfl ?_
    refine tri_seq ?_
    refine tri_reg mixed hcx ?_ _ _
    refine asg rfl ?_
    refine ⟨by kernel_rfl, ?_⟩
    refine nx (sl 2 rfl sn) (el 10 rfl en) ?_
    refine tri_ret ?_
    repeat (first | refine pn_thenr ?_ | refine pn_blkr ?_)
    exact ret1 hcx rfl (rv_tmp rfl) (.refl _) en

theorem t_Valid_c4 {D : List Int} {L : List (List Int)} {ts : List (Int × Int)} {a b : Int} {k : Nat} (hk : k ≤ 16777216) (hLl : L.length ≤ 1048576) (hDl : D.length ≤ 1048576) (htl : ts.length ≤ 1048576) (hn : L.length ≤ 12) (ht : ts.length = 0 ∨ ts.length = L.length) (hb : 0 < b) (ha : ¬ 0 ≤ a) : Fn Try.prog 24 [T.Tr D L ts a b k] [] [] [] (T.c (.int .i64 110)) := by
  refine fn_of Try.func24 rfl (by show 1 ≤ 61; decide) fun cx hcx => ?_
  refine tri_sub (sl 0 rfl sn) en ?_
  have hsb : sg b = 1 := sg_pos hb
  have hsa : sg a = -1 := sg_neg (by omega)
  refine tri_seq ?_
  refine tri_reg mixed hcx ?_ _ _
  refine bxs 10 rfl ?_
  refine asg rfl ?_
  refine ⟨by kernel_rfl, ?_⟩
  refine nx (sl 1 rfl sn) (el 10 rfl en) ?_
  refine tri_seq ?_
  refine tri_reg mixed hcx ?_ _ _
  refine fa rfl fTrG 0 ?_
  refine fa rfl fL 1 ?_
  refine ld rfl rfl tyZss rfl ?_
  refine ln slZss rfl ?_
  refine asg rfl ?_
  refine ⟨by kernel_rfl, ?_⟩
  refine nx (sl 1 rfl (sl 3 rfl sn)) (el 10 rfl en) ?_
  refine tri_seq ?_
  refine tri_seq ?_
  by_cases htz : ts.length = 0
  · refine tri_reg mixed hcx ?_ _ _
    refine mv rfl ?_
    refine cgt rfl rfl (decide_eq_false (by omega)) ?_
    refine mv rfl ?_
    refine fa rfl fTrT 2 ?_ (hg := gd1)
    refine ld rfl rfl tyQs rfl ?_ (hg := gd1)
    refine ln slQs rfl ?_ (hg := gd1)
    refine cne rfl rfl (decide_eq_false (by omega)) ?_ (hg := gd1)
    refine mv rfl ?_ (hg := gd1)
    refine j_off rfl rfl rfl rfl ?_
    refine j_off rfl rfl rfl rfl ?_
    refine j_off rfl rfl rfl rfl ?_
    refine j_off rfl rfl rfl rfl ?_
    refine j_off rfl rfl rfl rfl ?_
    refine pk rfl rfl ?_ (hg := gd1)
    refine pk rfl rfl ?_
    refine mv rfl ?_
    refine fa rfl fTrR 3 ?_ (hg := gd1)
    refine fa rfl fDen 5 ?_ (hg := gd1)
    refine ld rfl rfl tyZ rfl ?_ (hg := gd1)
    refine ca rfl (h := zi_Sign (by omega)) (hn := ?_) (hg := gd1)
    refine cle rfl rfl (decide_eq_false (by omega)) ?_ (hg := gd1)
    refine pk rfl rfl ?_
    refine mv rfl ?_
    refine fa rfl fTrR 3 ?_ (hg := gd1)
    refine fa rfl fNum 3 ?_ (hg := gd1)
    refine ld rfl rfl tyZ rfl ?_ (hg := gd1)
    refine ca rfl (h := zi_Sign (by omega)) (hn := ?_) (hg := gd1)
    refine clt rfl rfl (decide_eq_true (by omega)) ?_ (hg := gd1)
    refine pk rfl rfl ?_
    refine ⟨by kernel_rfl, ?_⟩
    refine nx (sl 1 rfl (sl 40 rfl sn)) (el 10 rfl en) ?_
    refine tri_true rfl rfl ?_
    refine tri_seq ?_
    refine tri_reg mixed hcx ?_ _ _
    refine asg rfl ?_
    refine ⟨by kernel_rfl, ?_⟩
    refine nx (sl 2 rfl sn) (el 10 rfl en) ?_
    refine tri_ret ?_
    repeat (first | refine pn_thenr ?_ | refine pn_blkr ?_)
    exact ret1 hcx rfl (rv_tmp rfl) (.refl _) en
  · have htn : ts.length = L.length := by rcases ht with h | h <;> omega
    refine tri_reg mixed hcx ?_ _ _
    refine mv rfl ?_
    refine cgt rfl rfl (decide_eq_false (by omega)) ?_
    refine mv rfl ?_
    refine fa rfl fTrT 2 ?_ (hg := gd1)
    refine ld rfl rfl tyQs rfl ?_ (hg := gd1)
    refine ln slQs rfl ?_ (hg := gd1)
    refine cne rfl rfl (decide_eq_true (by omega)) ?_ (hg := gd1)
    refine mv rfl ?_ (hg := gd1)
    refine fa rfl fTrT 2 ?_ (hg := gd1)
    refine ld rfl rfl tyQs rfl ?_ (hg := gd1)
    refine ln slQs rfl ?_ (hg := gd1)
    refine mv rfl ?_ (hg := gd1)
    refine cne rfl rfl (decide_eq_false (by omega)) ?_ (hg := gd1)
    refine pk rfl rfl ?_ (hg := gd1)
    refine pk rfl rfl ?_
    refine mv rfl ?_
    refine fa rfl fTrR 3 ?_ (hg := gd1)
    refine fa rfl fDen 5 ?_ (hg := gd1)
    refine ld rfl rfl tyZ rfl ?_ (hg := gd1)
    refine ca rfl (h := zi_Sign (by omega)) (hn := ?_) (hg := gd1)
    refine cle rfl rfl (decide_eq_false (by omega)) ?_ (hg := gd1)
    refine pk rfl rfl ?_
    refine mv rfl ?_
    refine fa rfl fTrR 3 ?_ (hg := gd1)
    refine fa rfl fNum 3 ?_ (hg := gd1)
    refine ld rfl rfl tyZ rfl ?_ (hg := gd1)
    refine ca rfl (h := zi_Sign (by omega)) (hn := ?_) (hg := gd1)
    refine clt rfl rfl (decide_eq_true (by omega)) ?_ (hg := gd1)
    refine pk rfl rfl ?_
    refine ⟨by kernel_rfl, ?_⟩
    refine nx (sl 1 rfl (sl 40 rfl sn)) (el 10 rfl en) ?_
    refine tri_true rfl rfl ?_
    refine tri_seq ?_
    refine tri_reg mixed hcx ?_ _ _
    refine asg rfl ?_
    refine ⟨by kernel_rfl, ?_⟩
    refine nx (sl 2 rfl sn) (el 10 rfl en) ?_
    refine tri_ret ?_
    repeat (first | refine pn_thenr ?_ | refine pn_blkr ?_)
    exact ret1 hcx rfl (rv_tmp rfl) (.refl _) en

theorem t_Valid_c5 {D : List Int} {L : List (List Int)} {ts : List (Int × Int)} {a b : Int} {k : Nat} (hk : k ≤ 16777216) (hLl : L.length ≤ 1048576) (hDl : D.length ≤ 1048576) (htl : ts.length ≤ 1048576) (hn : L.length ≤ 12) (ht : ts.length = 0 ∨ ts.length = L.length) (hb : 0 < b) (ha : 0 ≤ a) (hG : ¬ GoodP D L) : Fn Try.prog 24 [T.Tr D L ts a b k] [] [] [] (T.c (.int .i64 110)) := by
  refine fn_of Try.func24 rfl (by show 1 ≤ 61; decide) fun cx hcx => ?_
  refine tri_sub (sl 0 rfl sn) en ?_
  have hsb : sg b = 1 := sg_pos hb
  have hsa : 0 ≤ sg a := sg_nn ha
  refine tri_seq ?_
  refine tri_reg mixed hcx ?_ _ _
  refine bxs 10 rfl ?_
  refine asg rfl ?_
  refine ⟨by kernel_rfl, ?_⟩
  refine nx (sl 1 rfl sn) (el 10 rfl en) ?_
  refine tri_seq ?_
  refine tri_reg mixed hcx ?_ _ _
  refine fa rfl fTrG 0 ?_
  refine fa rfl fL 1 ?_
  refine ld rfl rfl tyZss rfl ?_
  refine ln slZss rfl ?_
  refine asg rfl ?_
  refine ⟨by kernel_rfl, ?_⟩
  refine nx (sl 1 rfl (sl 3 rfl sn)) (el 10 rfl en) ?_
  refine tri_seq ?_
  refine tri_seq ?_
  by_cases htz : ts.length = 0
  · refine tri_reg mixed hcx ?_ _ _
    refine mv rfl ?_
    refine cgt rfl rfl (decide_eq_false (by omega)) ?_
    refine mv rfl ?_
    refine fa rfl fTrT 2 ?_ (hg := gd1)
    refine ld rfl rfl tyQs rfl ?_ (hg := gd1)
    refine ln slQs rfl ?_ (hg := gd1)
    refine cne rfl rfl (decide_eq_false (by omega)) ?_ (hg := gd1)
    refine mv rfl ?_ (hg := gd1)
    refine j_off rfl rfl rfl rfl ?_
    refine j_off rfl rfl rfl rfl ?_
    refine j_off rfl rfl rfl rfl ?_
    refine j_off rfl rfl rfl rfl ?_
    refine j_off rfl rfl rfl rfl ?_
    refine pk rfl rfl ?_ (hg := gd1)
    refine pk rfl rfl ?_
    refine mv rfl ?_
    refine fa rfl fTrR 3 ?_ (hg := gd1)
    refine fa rfl fDen 5 ?_ (hg := gd1)
    refine ld rfl rfl tyZ rfl ?_ (hg := gd1)
    refine ca rfl (h := zi_Sign (by omega)) (hn := ?_) (hg := gd1)
    refine cle rfl rfl (decide_eq_false (by omega)) ?_ (hg := gd1)
    refine pk rfl rfl ?_
    refine mv rfl ?_
    refine fa rfl fTrR 3 ?_ (hg := gd1)
    refine fa rfl fNum 3 ?_ (hg := gd1)
    refine ld rfl rfl tyZ rfl ?_ (hg := gd1)
    refine ca rfl (h := zi_Sign (by omega)) (hn := ?_) (hg := gd1)
    refine clt rfl rfl (decide_eq_false (by omega)) ?_ (hg := gd1)
    refine pk rfl rfl ?_
    refine ⟨by kernel_rfl, ?_⟩
    refine nx (sl 1 rfl (sl 40 rfl sn)) (el 10 rfl en) ?_
    refine tri_false rfl rfl ?_
    refine tri_skip ?_
    refine nx (sl 1 rfl sn) (el 10 rfl en) ?_
    refine tri_seq ?_
    refine tri_seq ?_
    refine tri_reg mixed hcx ?_ _ _
    refine fa rfl fTrG 0 ?_
    refine ld rfl rfl tyG rfl ?_
    refine ca rfl (h := g_Star_no (k := k) (i := 0) (by omega) (by omega) (by omega) hG) (hn := ?_)
    refine mv rfl ?_
    refine ex rfl rfl ?_
    refine ex rfl rfl ?_
    refine nw 416 zeQ ?_
    refine st rfl rfl rfl tyQ rfl ?_
    refine asg rfl ?_
    refine ⟨by kernel_rfl, ?_⟩
    refine nx (sl 1 rfl (sl 5 rfl sn)) (el 10 rfl (el 416 rfl en)) ?_
    refine tri_seq ?_
    refine tri_reg mixed hcx ?_ _ _
    refine mv rfl ?_
    refine cne rfl rfl (decide_eq_true (by omega)) ?_
    refine ⟨by kernel_rfl, ?_⟩
    refine nx (sl 1 rfl (sl 48 rfl sn)) (el 10 rfl (el 416 rfl en)) ?_
    refine tri_true rfl rfl ?_
    refine tri_seq ?_
    refine tri_reg mixed hcx ?_ _ _
    refine asg rfl ?_
    refine ⟨by kernel_rfl, ?_⟩
    refine nx (sl 2 rfl sn) (el 10 rfl (el 416 rfl en)) ?_
    refine tri_ret ?_
    repeat (first | refine pn_thenr ?_ | refine pn_blkr ?_)
    exact ret1 hcx rfl (rv_tmp rfl) (.refl _) en
  · have htn : ts.length = L.length := by rcases ht with h | h <;> omega
    refine tri_reg mixed hcx ?_ _ _
    refine mv rfl ?_
    refine cgt rfl rfl (decide_eq_false (by omega)) ?_
    refine mv rfl ?_
    refine fa rfl fTrT 2 ?_ (hg := gd1)
    refine ld rfl rfl tyQs rfl ?_ (hg := gd1)
    refine ln slQs rfl ?_ (hg := gd1)
    refine cne rfl rfl (decide_eq_true (by omega)) ?_ (hg := gd1)
    refine mv rfl ?_ (hg := gd1)
    refine fa rfl fTrT 2 ?_ (hg := gd1)
    refine ld rfl rfl tyQs rfl ?_ (hg := gd1)
    refine ln slQs rfl ?_ (hg := gd1)
    refine mv rfl ?_ (hg := gd1)
    refine cne rfl rfl (decide_eq_false (by omega)) ?_ (hg := gd1)
    refine pk rfl rfl ?_ (hg := gd1)
    refine pk rfl rfl ?_
    refine mv rfl ?_
    refine fa rfl fTrR 3 ?_ (hg := gd1)
    refine fa rfl fDen 5 ?_ (hg := gd1)
    refine ld rfl rfl tyZ rfl ?_ (hg := gd1)
    refine ca rfl (h := zi_Sign (by omega)) (hn := ?_) (hg := gd1)
    refine cle rfl rfl (decide_eq_false (by omega)) ?_ (hg := gd1)
    refine pk rfl rfl ?_
    refine mv rfl ?_
    refine fa rfl fTrR 3 ?_ (hg := gd1)
    refine fa rfl fNum 3 ?_ (hg := gd1)
    refine ld rfl rfl tyZ rfl ?_ (hg := gd1)
    refine ca rfl (h := zi_Sign (by omega)) (hn := ?_) (hg := gd1)
    refine clt rfl rfl (decide_eq_false (by omega)) ?_ (hg := gd1)
    refine pk rfl rfl ?_
    refine ⟨by kernel_rfl, ?_⟩
    refine nx (sl 1 rfl (sl 40 rfl sn)) (el 10 rfl en) ?_
    refine tri_false rfl rfl ?_
    refine tri_skip ?_
    refine nx (sl 1 rfl sn) (el 10 rfl en) ?_
    refine tri_seq ?_
    refine tri_seq ?_
    refine tri_reg mixed hcx ?_ _ _
    refine fa rfl fTrG 0 ?_
    refine ld rfl rfl tyG rfl ?_
    refine ca rfl (h := g_Star_no (k := k) (i := 0) (by omega) (by omega) (by omega) hG) (hn := ?_)
    refine mv rfl ?_
    refine ex rfl rfl ?_
    refine ex rfl rfl ?_
    refine nw 416 zeQ ?_
    refine st rfl rfl rfl tyQ rfl ?_
    refine asg rfl ?_
    refine ⟨by kernel_rfl, ?_⟩
    refine nx (sl 1 rfl (sl 5 rfl sn)) (el 10 rfl (el 416 rfl en)) ?_
    refine tri_seq ?_
    refine tri_reg mixed hcx ?_ _ _
    refine mv rfl ?_
    refine cne rfl rfl (decide_eq_true (by omega)) ?_
    refine ⟨by kernel_rfl, ?_⟩
    refine nx (sl 1 rfl (sl 48 rfl sn)) (el 10 rfl (el 416 rfl en)) ?_
    refine tri_true rfl rfl ?_
    refine tri_seq ?_
    refine tri_reg mixed hcx ?_ _ _
    refine asg rfl ?_
    refine ⟨by kernel_rfl, ?_⟩
    refine nx (sl 2 rfl sn) (el 10 rfl (el 416 rfl en)) ?_
    refine tri_ret ?_
    repeat (first | refine pn_thenr ?_ | refine pn_blkr ?_)
    exact ret1 hcx rfl (rv_tmp rfl) (.refl _) en

theorem t_Valid_c6 {D : List Int} {L : List (List Int)} {ts : List (Int × Int)} {a b : Int} {k : Nat} (hk : k ≤ 16777216) (hLl : L.length ≤ 1048576) (hDl : D.length ≤ 1048576) (htl : ts.length ≤ 1048576) (hn : L.length ≤ 12) (ht : ts.length = 0 ∨ ts.length = L.length) (hb : 0 < b) (ha : 0 ≤ a) (hG : GoodP D L) {w : Nat} (hw : w < ts.length) (hw1 : ¬ 0 < (ts.getD w (0, 0)).2) (hw2 : ∀ i, i < w → 0 < (ts.getD i (0, 0)).2) : Fn Try.prog 24 [T.Tr D L ts a b k] [] [] [] (T.c (.int .i64 110)) := by
  refine fn_of Try.func24 rfl (by show 1 ≤ 61; decide) fun cx hcx => ?_
  refine tri_sub (sl 0 rfl sn) en ?_
  have hsb : sg b = 1 := sg_pos hb
  have hsa : 0 ≤ sg a := sg_nn ha
  refine tri_seq ?_
  refine tri_reg mixed hcx ?_ _ _
  refine bxs 10 rfl ?_
  refine asg rfl ?_
  refine ⟨by kernel_rfl, ?_⟩
  refine nx (sl 1 rfl sn) (el 10 rfl en) ?_
  refine tri_seq ?_
  refine tri_reg mixed hcx ?_ _ _
  refine fa rfl fTrG 0 ?_
  refine fa rfl fL 1 ?_
  refine ld rfl rfl tyZss rfl ?_
  refine ln slZss rfl ?_
  refine asg rfl ?_
  refine ⟨by kernel_rfl, ?_⟩
  refine nx (sl 1 rfl (sl 3 rfl sn)) (el 10 rfl en) ?_
  refine tri_seq ?_
  refine tri_seq ?_
  by_cases htz : ts.length = 0
  · refine tri_reg mixed hcx ?_ _ _
    refine mv rfl ?_
    refine cgt rfl rfl (decide_eq_false (by omega)) ?_
    refine mv rfl ?_
    refine fa rfl fTrT 2 ?_ (hg := gd1)
    refine ld rfl rfl tyQs rfl ?_ (hg := gd1)
    refine ln slQs rfl ?_ (hg := gd1)
    refine cne rfl rfl (decide_eq_false (by omega)) ?_ (hg := gd1)
    refine mv rfl ?_ (hg := gd1)
    refine j_off rfl rfl rfl rfl ?_
    refine j_off rfl rfl rfl rfl ?_
    refine j_off rfl rfl rfl rfl ?_
    refine j_off rfl rfl rfl rfl ?_
    refine j_off rfl rfl rfl rfl ?_
    refine pk rfl rfl ?_ (hg := gd1)
    refine pk rfl rfl ?_
    refine mv rfl ?_
    refine fa rfl fTrR 3 ?_ (hg := gd1)
    refine fa rfl fDen 5 ?_ (hg := gd1)
    refine ld rfl rfl tyZ rfl ?_ (hg := gd1)
    refine ca rfl (h := zi_Sign (by omega)) (hn := ?_) (hg := gd1)
    refine cle rfl rfl (decide_eq_false (by omega)) ?_ (hg := gd1)
    refine pk rfl rfl ?_
    refine mv rfl ?_
    refine fa rfl fTrR 3 ?_ (hg := gd1)
    refine fa rfl fNum 3 ?_ (hg := gd1)
    refine ld rfl rfl tyZ rfl ?_ (hg := gd1)
    refine ca rfl (h := zi_Sign (by omega)) (hn := ?_) (hg := gd1)
    refine clt rfl rfl (decide_eq_false (by omega)) ?_ (hg := gd1)
    refine pk rfl rfl ?_
    refine ⟨by kernel_rfl, ?_⟩
    refine nx (sl 1 rfl (sl 40 rfl sn)) (el 10 rfl en) ?_
    refine tri_false rfl rfl ?_
    refine tri_skip ?_
    refine nx (sl 1 rfl sn) (el 10 rfl en) ?_
    refine tri_seq ?_
    refine tri_seq ?_
    refine tri_reg mixed hcx ?_ _ _
    refine fa rfl fTrG 0 ?_
    refine ld rfl rfl tyG rfl ?_
    refine ca rfl (h := g_Star (k := k) (i := 0) (by omega) (by omega) hG hG.1) (hn := ?_)
    refine mv rfl ?_
    refine ex rfl rfl ?_
    refine ex rfl rfl ?_
    refine nw 416 zeQ ?_
    refine st rfl rfl rfl tyQ rfl ?_
    refine asg rfl ?_
    refine ⟨by kernel_rfl, ?_⟩
    refine nx (sl 1 rfl (sl 5 rfl sn)) (el 10 rfl (el 416 rfl en)) ?_
    refine tri_seq ?_
    refine tri_reg mixed hcx ?_ _ _
    refine mv rfl ?_
    refine cne rfl rfl (decide_eq_false (by omega)) ?_
    refine ⟨by kernel_rfl, ?_⟩
    refine nx (sl 1 rfl (sl 48 rfl sn)) (el 10 rfl (el 416 rfl en)) ?_
    refine tri_false rfl rfl ?_
    refine tri_skip ?_
    refine nx (sl 1 rfl sn) (el 10 rfl (el 416 rfl en)) ?_
    refine tri_seq ?_
    refine tri_seq ?_
    refine tri_reg mixed hcx ?_ _ _
    refine fa rfl fTrT 2 ?_
    refine ld rfl rfl tyQs rfl ?_
    refine ln slQs rfl ?_
    refine mv rfl ?_
    refine ⟨by kernel_rfl, ?_⟩
    refine nx (sl 50 rfl (sl 51 rfl (sl 52 rfl sn))) (el 10 rfl (el 416 rfl en)) ?_
    refine tri_block ?_
    refine tri_loop (ι := Nat) (fun i => [(50, T.l (cQi k) ts), (51, T.c (.int .i64 (ts.length : Int))), (52, T.c (.int .i64 (i : Int)))]) (fun i => []) (fun i => ts.length - i) (fun i => (i ≤ w)) 0 (Nat.zero_le _) (sl 50 rfl (sl 51 rfl (sl 52 rfl sn))) en ?_
    rintro i hi
    refine tri_sub (sl 50 rfl (sl 51 rfl (sl 52 rfl sn))) en ?_
    refine tri_seq ?_
    refine tri_reg mixed hcx ?_ _ _
    refine clt rfl rfl (decide_eq_true (by omega)) ?_
    refine ⟨by kernel_rfl, ?_⟩
    refine nx (sl 50 rfl (sl 51 rfl (sl 52 rfl (sl 53 rfl sn)))) en ?_
    refine tri_seq ?_
    refine tri_true rfl rfl ?_
    refine tri_skip ?_
    refine nx (sl 50 rfl (sl 51 rfl (sl 52 rfl sn))) en ?_
    refine tri_seq ?_
    refine tri_block ?_
    refine tri_seq ?_
    refine tri_reg mixed hcx ?_ _ _
    refine ix rfl rfl slQs ⟨rfl, by omega⟩ ?_
    refine lf rfl tyQ ?_
    refine nw 912 zeQ ?_
    refine sts (zz := [T.Zi (ts.getD i (cQi k).dflt).1 k, T.Zi (ts.getD i (cQi k).dflt).2 k]) rfl rfl rfl tyQ rfl ?_
    refine ⟨by kernel_rfl, ?_⟩
    refine nx (sl 7 rfl (sl 50 rfl (sl 51 rfl (sl 52 rfl sn)))) (el 912 rfl en) ?_
    refine tri_seq ?_
    rcases Nat.lt_or_eq_of_le hi with hlt | heq
    · have hte : sg (ts.getD i (cQi k).dflt).2 = 1 := sg_pos (hw2 i hlt)
      refine tri_reg mixed hcx ?_ _ _
      refine fa rfl fDen 2 ?_
      refine ld rfl rfl tyZ rfl ?_
      refine ca rfl (h := zi_Sign (by omega)) (hn := ?_)
      refine cle rfl rfl (decide_eq_false (by omega)) ?_
      refine ⟨by kernel_rfl, ?_⟩
      refine nx (sl 50 rfl (sl 51 rfl (sl 52 rfl (sl 59 rfl sn)))) (el 912 rfl en) ?_
      refine tri_false rfl rfl ?_
      refine tri_skip ?_
      refine pn_blk ?_
      refine nx (sl 50 rfl (sl 51 rfl (sl 52 rfl sn))) (el 912 rfl en) ?_
      refine tri_reg mixed hcx ?_ _ _
      refine ad (((i + 1 : Nat) : Int)) rfl rfl rfl (by omega) ?_
      refine mv rfl ?_
      refine ⟨by kernel_rfl, ?_⟩
      exact pn_back (i + 1) (by first | omega | (dsimp only; omega)) (by omega) (sl 50 rfl (sl 51 rfl (sl 52 rfl sn))) en
    · have hte : sg (ts.getD i (cQi k).dflt).2 ≤ 0 := by rw [heq]; have h0 : ¬ 0 < (ts.getD w (cQi k).dflt).2 := hw1; rcases Int.lt_trichotomy (ts.getD w (cQi k).dflt).2 0 with h | h | h; rw [sg_neg h]; decide; rw [h, sg_zero]; omega; omega
      refine tri_reg mixed hcx ?_ _ _
      refine fa rfl fDen 2 ?_
      refine ld rfl rfl tyZ rfl ?_
      refine ca rfl (h := zi_Sign (by omega)) (hn := ?_)
      refine cle rfl rfl (decide_eq_true (by omega)) ?_
      refine ⟨by kernel_rfl, ?_⟩
      refine nx (sl 50 rfl (sl 51 rfl (sl 52 rfl (sl 59 rfl sn)))) (el 912 rfl en) ?_
      refine tri_true rfl rfl ?_
      refine tri_seq ?_
      refine tri_reg mixed hcx ?_ _ _
      refine asg rfl ?_
      refine ⟨by kernel_rfl, ?_⟩
      refine nx (sl 2 rfl sn) (el 912 rfl en) ?_
      refine tri_ret ?_
      repeat (first | refine pn_thenr ?_ | refine pn_blkr ?_)
      exact ret1 hcx rfl (rv_tmp rfl) (.refl _) en
  · have htn : ts.length = L.length := by rcases ht with h | h <;> omega
    refine tri_reg mixed hcx ?_ _ _
    refine mv rfl ?_
    refine cgt rfl rfl (decide_eq_false (by omega)) ?_
    refine mv rfl ?_
    refine fa rfl fTrT 2 ?_ (hg := gd1)
    refine ld rfl rfl tyQs rfl ?_ (hg := gd1)
    refine ln slQs rfl ?_ (hg := gd1)
    refine cne rfl rfl (decide_eq_true (by omega)) ?_ (hg := gd1)
    refine mv rfl ?_ (hg := gd1)
    refine fa rfl fTrT 2 ?_ (hg := gd1)
    refine ld rfl rfl tyQs rfl ?_ (hg := gd1)
    refine ln slQs rfl ?_ (hg := gd1)
    refine mv rfl ?_ (hg := gd1)
    refine cne rfl rfl (decide_eq_false (by omega)) ?_ (hg := gd1)
    refine pk rfl rfl ?_ (hg := gd1)
    refine pk rfl rfl ?_
    refine mv rfl ?_
    refine fa rfl fTrR 3 ?_ (hg := gd1)
    refine fa rfl fDen 5 ?_ (hg := gd1)
    refine ld rfl rfl tyZ rfl ?_ (hg := gd1)
    refine ca rfl (h := zi_Sign (by omega)) (hn := ?_) (hg := gd1)
    refine cle rfl rfl (decide_eq_false (by omega)) ?_ (hg := gd1)
    refine pk rfl rfl ?_
    refine mv rfl ?_
    refine fa rfl fTrR 3 ?_ (hg := gd1)
    refine fa rfl fNum 3 ?_ (hg := gd1)
    refine ld rfl rfl tyZ rfl ?_ (hg := gd1)
    refine ca rfl (h := zi_Sign (by omega)) (hn := ?_) (hg := gd1)
    refine clt rfl rfl (decide_eq_false (by omega)) ?_ (hg := gd1)
    refine pk rfl rfl ?_
    refine ⟨by kernel_rfl, ?_⟩
    refine nx (sl 1 rfl (sl 40 rfl sn)) (el 10 rfl en) ?_
    refine tri_false rfl rfl ?_
    refine tri_skip ?_
    refine nx (sl 1 rfl sn) (el 10 rfl en) ?_
    refine tri_seq ?_
    refine tri_seq ?_
    refine tri_reg mixed hcx ?_ _ _
    refine fa rfl fTrG 0 ?_
    refine ld rfl rfl tyG rfl ?_
    refine ca rfl (h := g_Star (k := k) (i := 0) (by omega) (by omega) hG hG.1) (hn := ?_)
    refine mv rfl ?_
    refine ex rfl rfl ?_
    refine ex rfl rfl ?_
    refine nw 416 zeQ ?_
    refine st rfl rfl rfl tyQ rfl ?_
    refine asg rfl ?_
    refine ⟨by kernel_rfl, ?_⟩
    refine nx (sl 1 rfl (sl 5 rfl sn)) (el 10 rfl (el 416 rfl en)) ?_
    refine tri_seq ?_
    refine tri_reg mixed hcx ?_ _ _
    refine mv rfl ?_
    refine cne rfl rfl (decide_eq_false (by omega)) ?_
    refine ⟨by kernel_rfl, ?_⟩
    refine nx (sl 1 rfl (sl 48 rfl sn)) (el 10 rfl (el 416 rfl en)) ?_
    refine tri_false rfl rfl ?_
    refine tri_skip ?_
    refine nx (sl 1 rfl sn) (el 10 rfl (el 416 rfl en)) ?_
    refine tri_seq ?_
    refine tri_seq ?_
    refine tri_reg mixed hcx ?_ _ _
    refine fa rfl fTrT 2 ?_
    refine ld rfl rfl tyQs rfl ?_
    refine ln slQs rfl ?_
    refine mv rfl ?_
    refine ⟨by kernel_rfl, ?_⟩
    refine nx (sl 50 rfl (sl 51 rfl (sl 52 rfl sn))) (el 10 rfl (el 416 rfl en)) ?_
    refine tri_block ?_
    refine tri_loop (ι := Nat) (fun i => [(50, T.l (cQi k) ts), (51, T.c (.int .i64 (ts.length : Int))), (52, T.c (.int .i64 (i : Int)))]) (fun i => []) (fun i => ts.length - i) (fun i => (i ≤ w)) 0 (Nat.zero_le _) (sl 50 rfl (sl 51 rfl (sl 52 rfl sn))) en ?_
    rintro i hi
    refine tri_sub (sl 50 rfl (sl 51 rfl (sl 52 rfl sn))) en ?_
    refine tri_seq ?_
    refine tri_reg mixed hcx ?_ _ _
    refine clt rfl rfl (decide_eq_true (by omega)) ?_
    refine ⟨by kernel_rfl, ?_⟩
    refine nx (sl 50 rfl (sl 51 rfl (sl 52 rfl (sl 53 rfl sn)))) en ?_
    refine tri_seq ?_
    refine tri_true rfl rfl ?_
    refine tri_skip ?_
    refine nx (sl 50 rfl (sl 51 rfl (sl 52 rfl sn))) en ?_
    refine tri_seq ?_
    refine tri_block ?_
    refine tri_seq ?_
    refine tri_reg mixed hcx ?_ _ _
    refine ix rfl rfl slQs ⟨rfl, by omega⟩ ?_
    refine lf rfl tyQ ?_
    refine nw 912 zeQ ?_
    refine sts (zz := [T.Zi (ts.getD i (cQi k).dflt).1 k, T.Zi (ts.getD i (cQi k).dflt).2 k]) rfl rfl rfl tyQ rfl ?_
    refine ⟨by kernel_rfl, ?_⟩
    refine nx (sl 7 rfl (sl 50 rfl (sl 51 rfl (sl 52 rfl sn)))) (el 912 rfl en) ?_
    refine tri_seq ?_
    rcases Nat.lt_or_eq_of_le hi with hlt | heq
    · have hte : sg (ts.getD i (cQi k).dflt).2 = 1 := sg_pos (hw2 i hlt)
      refine tri_reg mixed hcx ?_ _ _
      refine fa rfl fDen 2 ?_
      refine ld rfl rfl tyZ rfl ?_
      refine ca rfl (h := zi_Sign (by omega)) (hn := ?_)
      refine cle rfl rfl (decide_eq_false (by omega)) ?_
      refine ⟨by kernel_rfl, ?_⟩
      refine nx (sl 50 rfl (sl 51 rfl (sl 52 rfl (sl 59 rfl sn)))) (el 912 rfl en) ?_
      refine tri_false rfl rfl ?_
      refine tri_skip ?_
      refine pn_blk ?_
      refine nx (sl 50 rfl (sl 51 rfl (sl 52 rfl sn))) (el 912 rfl en) ?_
      refine tri_reg mixed hcx ?_ _ _
      refine ad (((i + 1 : Nat) : Int)) rfl rfl rfl (by omega) ?_
      refine mv rfl ?_
      refine ⟨by kernel_rfl, ?_⟩
      exact pn_back (i + 1) (by first | omega | (dsimp only; omega)) (by omega) (sl 50 rfl (sl 51 rfl (sl 52 rfl sn))) en
    · have hte : sg (ts.getD i (cQi k).dflt).2 ≤ 0 := by rw [heq]; have h0 : ¬ 0 < (ts.getD w (cQi k).dflt).2 := hw1; rcases Int.lt_trichotomy (ts.getD w (cQi k).dflt).2 0 with h | h | h; rw [sg_neg h]; decide; rw [h, sg_zero]; omega; omega
      refine tri_reg mixed hcx ?_ _ _
      refine fa rfl fDen 2 ?_
      refine ld rfl rfl tyZ rfl ?_
      refine ca rfl (h := zi_Sign (by omega)) (hn := ?_)
      refine cle rfl rfl (decide_eq_true (by omega)) ?_
      refine ⟨by kernel_rfl, ?_⟩
      refine nx (sl 50 rfl (sl 51 rfl (sl 52 rfl (sl 59 rfl sn)))) (el 912 rfl en) ?_
      refine tri_true rfl rfl ?_
      refine tri_seq ?_
      refine tri_reg mixed hcx ?_ _ _
      refine asg rfl ?_
      refine ⟨by kernel_rfl, ?_⟩
      refine nx (sl 2 rfl sn) (el 912 rfl en) ?_
      refine tri_ret ?_
      repeat (first | refine pn_thenr ?_ | refine pn_blkr ?_)
      exact ret1 hcx rfl (rv_tmp rfl) (.refl _) en

/-- What is no tree is refused. -/
theorem t_Valid_no {D : List Int} {L : List (List Int)} {ts : List (Int × Int)} {a b : Int} {k : Nat} (hk : k ≤ 16777216) (hLl : L.length ≤ 1048576) (hDl : D.length ≤ 1048576) (htl : ts.length ≤ 1048576) (hV : ¬ TrV D L ts a b) : Fn Try.prog 24 [T.Tr D L ts a b k] [] [] [] (T.c (.int .i64 110)) := by
  classical
  by_cases hn : L.length ≤ 12
  · by_cases ht : ts.length = 0 ∨ ts.length = L.length
    · by_cases hb : 0 < b
      · by_cases ha : 0 ≤ a
        · by_cases hG : GoodP D L
          · obtain ⟨w, h1, h2, h3⟩ := least_bad (P := fun i => 0 < (ts.getD i (0, 0)).2) (n := ts.length) (fun h => hV ⟨hG, hn, ht, h, hb, ha⟩)
            exact t_Valid_c6 hk hLl hDl htl hn ht hb ha hG h1 h2 h3
          · exact t_Valid_c5 hk hLl hDl htl hn ht hb ha hG
        · exact t_Valid_c4 hk hLl hDl htl hn ht hb ha
      · exact t_Valid_c3 hk hLl hDl htl hn ht hb
    · exact t_Valid_c2 hk hLl hDl htl hn (fun h => ht (.inl h)) (fun h => ht (.inr h))
  · exact t_Valid_c1 hk hLl hDl htl (by omega)

end Go.Proofs.Ytekghdfbhbhigaa.V
/- Search trees: the document's parts and centres. -/
set_option linter.unusedVariables false
set_option linter.unusedSimpArgs false
set_option maxRecDepth 100000
namespace Go.Proofs.Ytekghdfbhbhigaa.V
open Go.RowKit Mt Nml
end Go.Proofs.Ytekghdfbhbhigaa.V
/- Search trees: every suffix has the part that its definition tells. -/
set_option linter.unusedVariables false
set_option linter.unusedSimpArgs false
set_option maxRecDepth 100000
namespace Go.Proofs.Ytekghdfbhbhigaa.V
open Go.RowKit Mt Nml
-- left out

-- left out

-- left out

-- left out
end Go.Proofs.Ytekghdfbhbhigaa.V
/- What is read of the arguments of a law: search trees. -/
set_option linter.unusedVariables false
set_option linter.unusedSimpArgs false
namespace Go.Proofs.Ytekghdfbhbhigaa.V
open Go.Deep Go.ChangeShapes Go.WideShapes Go.ChangeAt Go.RowKit Mt Nml
section
variable {P : Program} {H : Type} {enc : TypeId × Value → H} {W : World} {base : Nat} {spare : Nat → Bool} {held : Bool} {fuel : Nat} {cs : List Value} {x : DataW H × List MemPlace}
theorem trod_struct3 {t : TypeId} {f0 f1 f2 : Field} (ht : P.underlying t = some (.struct #[f0, f1, f2])) (h : DataW.trod enc P W base spare held fuel t cs = some x) :
    ∃ y0 y1 y2 n, x = (.agg [y0.1, y1.1, y2.1], y0.2 ++ (y1.2 ++ y2.2)) ∧ cs.length = P.cellsOf t ∧ DataW.trod enc P W base spare held n f0.type ((cs.drop f0.offset).take (P.cellsOf f0.type)) = some y0 ∧
      DataW.trod enc P W base spare held n f1.type ((cs.drop f1.offset).take (P.cellsOf f1.type)) = some y1 ∧ DataW.trod enc P W base spare held n f2.type ((cs.drop f2.offset).take (P.cellsOf f2.type)) = some y2 := by
  obtain ⟨xs, n, _, rfl, hl, hlen, hf⟩ := DataW.trod_struct ht h
  match xs, hlen with
  | [y0, y1, y2], _ => exact ⟨y0, y1, y2, n, by simp, hl, by simpa using hf 0 f0 rfl, by simpa using hf 1 f1 rfl, by simpa using hf 2 f2 rfl⟩
set_option maxRecDepth 100000 in
theorem read_Tree {k : Nat} (h : DataW.trod enc Try.prog W base spare held fuel 42 cs = some x) (hk : Rows.uptoBulk x.1 ≤ k) : ∃ D L ts a b, (T.Tr D L ts a b k).rep B0 W (.agg cs.toArray) ∧ D.length ≤ k ∧ L.length ≤ k ∧ ts.length ≤ k := by
  obtain ⟨y0, y1, y2, m, rfl, hl, h0, h1, h2⟩ := trod_struct3 Try.underlying42 h
  have hl2 : cs.length = 7 := hl.trans (by kernel_rfl)
  have hk' : Rows.uptoBulk y0.1 + (Rows.uptoBulk y1.1 + (Rows.uptoBulk y2.1 + 0)) + 1 ≤ k := hk
  match cs, hl2 with
  | [c0, c1, c2, c3, c4, c5, c6], _ =>
    have k0 : (([c0, c1, c2, c3, c4, c5, c6] : List Value).drop 0).take (Try.prog.cellsOf 34) = [c0, c1] := by rw [show Try.prog.cellsOf 34 = 2 from by kernel_rfl]; rfl
    have k1 : (([c0, c1, c2, c3, c4, c5, c6] : List Value).drop 2).take (Try.prog.cellsOf 35) = [c2] := by rw [show Try.prog.cellsOf 35 = 1 from by kernel_rfl]; rfl
    have k2 : (([c0, c1, c2, c3, c4, c5, c6] : List Value).drop 3).take (Try.prog.cellsOf 40) = [c3, c4, c5, c6] := by rw [show Try.prog.cellsOf 40 = 4 from by kernel_rfl]; rfl
    rw [k0] at h0
    rw [k1] at h1
    rw [k2] at h2
    obtain ⟨D, L, hG, hD, hL⟩ := read_Gso (k := k) h0 (by omega)
    obtain ⟨v, ts, e1, hT, hTn⟩ := read_fracs (k := k) h1 (by omega)
    obtain ⟨a, b, hR⟩ := read_Frac (k := k) h2 (by omega)
    cases e1
    refine ⟨D, L, ts, a, b, tr_flat (A := T.l (cZi k) D) (B := T.l (cL (cZi k)) L) (C := T.l (cQi k) ts) (D := T.Zi a k) (E := T.Zi b k) _ _ _ ⟨[c0, c1, c2, c3, c4, c5, c6], rfl, .agg #[c0, c1], [c2, c3, c4, c5, c6], by show (2 : Nat) ≠ 0; omega, hG, rfl, c2, [c3, c4, c5, c6], by show (1 : Nat) ≠ 0; omega, hT, ?_, .agg #[c3, c4, c5, c6], [], by show (4 : Nat) ≠ 0; omega, hR, rfl, rfl⟩, hD, hL, by omega⟩
    obtain ⟨A, n, q, rfl, _⟩ := hT
    rfl
end
end Go.Proofs.Ytekghdfbhbhigaa.V
/- A search tree: how large its numbers are; each suffix has so many nodes below it. -/
set_option linter.unusedVariables false
set_option maxRecDepth 100000
namespace Go.Proofs.Ytekghdfbhbhigaa.V
open Go.RowKit Mt Nml
/-- A fraction's size. -/
def Rb (q : Rat) (e : Nat) : Prop := -((B e : Int) : Rat) ≤ q ∧ q ≤ ((B e : Int) : Rat)
theorem B_rp (e : Nat) : (1 : Rat) ≤ ((B e : Int) : Rat) := by
  have := Int.add_one_le_iff.2 (B_pos e)
  rw [show (1 : Rat) = ((1 : Int) : Rat) from rfl, Rat.intCast_le_intCast]
  omega
theorem B_rm {e f : Nat} (h : e ≤ f) : ((B e : Int) : Rat) ≤ ((B f : Int) : Rat) := Rat.intCast_le_intCast.2 (B_mono h)
theorem B_r2 (e : Nat) : ((B e : Int) : Rat) + ((B e : Int) : Rat) ≤ ((B (e + 1) : Int) : Rat) := by
  rw [← Rat.intCast_add, Rat.intCast_le_intCast, B_succ]
  have := B_pos e
  omega
theorem B_rmul (e f : Nat) : ((B (e + f) : Int) : Rat) = ((B e : Int) : Rat) * ((B f : Int) : Rat) := by rw [B_add, Rat.intCast_mul]
theorem Rb.mono {q : Rat} {e f : Nat} (h : Rb q e) (hf : e ≤ f) : Rb q f := by
  have := B_rm hf
  unfold Rb at *
  generalize ((B e : Int) : Rat) = x at *
  generalize ((B f : Int) : Rat) = y at *
  grind
theorem Rb.add {x y : Rat} {e : Nat} (h : Rb x e) (k : Rb y e) : Rb (x + y) (e + 1) := by
  have := B_r2 e
  unfold Rb at *
  generalize ((B e : Int) : Rat) = a at *
  generalize ((B (e + 1) : Int) : Rat) = b at *
  grind
theorem Rb.sub {x y : Rat} {e : Nat} (h : Rb x e) (k : Rb y e) : Rb (x - y) (e + 1) := by
  have := B_r2 e
  unfold Rb at *
  generalize ((B e : Int) : Rat) = a at *
  generalize ((B (e + 1) : Int) : Rat) = b at *
  grind
theorem Rb.mul {x y : Rat} {e f : Nat} (h : Rb x e) (k : Rb y f) : Rb (x * y) (e + f) := by
  unfold Rb at *
  rw [B_rmul]
  generalize ((B e : Int) : Rat) = a at *
  generalize ((B f : Int) : Rat) = c at *
  obtain ⟨h1, h2⟩ := h
  obtain ⟨k1, k2⟩ := k
  have p1 := Rat.mul_nonneg (show 0 ≤ a - x by grind) (show 0 ≤ c + y by grind)
  have p2 := Rat.mul_nonneg (show 0 ≤ a + x by grind) (show 0 ≤ c - y by grind)
  have p3 := Rat.mul_nonneg (show 0 ≤ a - x by grind) (show 0 ≤ c - y by grind)
  have p4 := Rat.mul_nonneg (show 0 ≤ a + x by grind) (show 0 ≤ c + y by grind)
  grind
theorem zl_B {z : Int} {e : Nat} (h : zl z ≤ e) : -(B e) < z ∧ z < B e := by
  have h1 := lt_B_lim z.natAbs
  have h2 := B_mono (show lim z.natAbs ≤ e from h)
  omega
theorem B_zl {z : Int} {e : Nat} (h : -(B e) ≤ z) (h2 : z ≤ B e) : zl z ≤ e + 1 := by
  unfold zl
  refine lim_le ?_
  have := B_pos e
  rw [B_succ]
  omega
theorem Rb.int {z : Int} {e : Nat} (h : zl z ≤ e) : Rb (z : Rat) e := by
  have := zl_B h
  unfold Rb
  rw [← Rat.intCast_neg, Rat.intCast_le_intCast, Rat.intCast_le_intCast]
  omega
theorem Rb.frac {a b : Int} {e : Nat} (h : zl a ≤ e) (hb : 0 < b) : Rb ((a : Rat) / (b : Rat)) e := by
  have h1 := zl_B h
  have hp := B_pos e
  have hm := Int.mul_le_mul_of_nonneg_left (show 1 ≤ b by omega) (show 0 ≤ B e by omega)
  refine ⟨?_, Rat.le_of_lt ?_⟩
  · rw [← Rat.intCast_neg, rle_div hb, Int.neg_mul]
    omega
  · rw [Rat.div_lt_iff (Rat.intCast_pos.2 hb), ← Rat.intCast_mul, Rat.intCast_lt_intCast]
    omega
/-- A whole number of such a size. -/
theorem Rb.zl {z : Int} {e : Nat} (h : Rb (z : Rat) e) : zl z ≤ e + 1 := by
  unfold Rb at h
  rw [← Rat.intCast_neg, Rat.intCast_le_intCast, Rat.intCast_le_intCast] at h
  exact B_zl h.1 h.2
theorem nea_Rb {c : Rat} {e : Nat} (h : Rb c e) : Rb ((nea c : Int) : Rat) (e + 1) := by
  have h1 := nea_b c
  have h2 := B_r2 e
  have h3 := B_rp e
  unfold Rb at *
  generalize ((nea c : Int) : Rat) = x at *
  generalize ((B e : Int) : Rat) = a at *
  generalize ((B (e + 1) : Int) : Rat) = b at *
  grind
/-- How far the k-th number is from the nearest. -/
theorem nth_far (c : Rat) (j : Nat) : nth c j = nea c + (((j + 1) / 2 : Nat) : Int) ∨ nth c j = nea c - (((j + 1) / 2 : Nat) : Int) := by
  unfold nth
  split
  · exact .inl rfl
  · exact .inr rfl
theorem nth_zl {c : Rat} {e j : Nat} (h : Rb c e) (hj : (((j + 1) / 2 : Nat) : Int) ≤ B (e + 1)) : zl (nth c j) ≤ e + 3 := by
  have h1 := nea_Rb h
  have h2 : Rb (((((j + 1) / 2 : Nat) : Int)) : Rat) (e + 1) := by
    have := B_pos (e + 1)
    unfold Rb
    rw [← Rat.intCast_neg, Rat.intCast_le_intCast, Rat.intCast_le_intCast]
    omega
  rcases nth_far c j with h3 | h3 <;> rw [h3]
  · have := Rb.add h1 h2
    rw [← Rat.intCast_add] at this
    exact Rb.zl this
  · have := Rb.sub h1 h2
    rw [← Rat.intCast_sub] at this
    exact Rb.zl this
theorem tq_Rb {D : List Int} {L : List (List Int)} {ts : List (Int × Int)} {n k : Nat} (h : TrS D L ts n k) {i : Nat} (hi : i < n) : Rb (aqT ts i) k := by
  unfold aqT
  split
  · exact Rb.mono (Rb.int (z := 0) (e := 0) (by rw [zl_zero]; exact Nat.le_refl _)) (Nat.zero_le _)
  · rename_i h0
    rcases h.tl with h1 | h1
    · exact absurd h1 h0
    · exact Rb.frac (h.zt i (by omega)).1 (h.tp i (by omega))
theorem ct_Rb {D : List Int} {L : List (List Int)} {ts : List (Int × Int)} {n k : Nat} (h : TrS D L ts n k) {s : List Int} {b : Nat} (hkb : k ≤ b) (hs : ∀ j, zl (s.getD j 0) ≤ b) {m i : Nat} (hm : m + 1 = n) : ∀ {c : Nat}, i + c ≤ m → Rb (ctT D L ts s m i c) (b + k + 2 + c)
  | 0, hc => Rb.mono (tq_Rb h (by omega)) (by omega)
  | c + 1, hc => by
    have h1 := ct_Rb h hkb hs hm (i := i) (c := c) (by omega)
    have h2 := Rb.mul (Rb.sub (Rb.int (hs c)) (Rb.mono (tq_Rb h (i := m - c) (by omega)) hkb)) (Rb.frac (h.zL i (m - c)) (h.dp (i := i + 1) (by omega)))
    exact Rb.sub h1 (Rb.mono (f := b + k + 2 + c) h2 (by omega))
/-- A part within the bound: the number is near. -/
theorem near_Rb {D : List Int} {L : List (List Int)} {ts : List (Int × Int)} {n k : Nat} (h : TrS D L ts n k) {i : Nat} (hi : i < n) {p R y : Rat} (hp : 0 ≤ p) (hR : Rb R k) (hw : p + y * y * stq D i ≤ R) : Rb y (2 * k) := by
  have d0 := h.dp (i := i) (by omega)
  have d1 := h.dp (i := i + 1) (by omega)
  have z0 := zl_B (h.zD i)
  have h0 : (0 : Rat) < ((D.getD i 0 : Int) : Rat) := Rat.intCast_pos.2 d0
  have h1 : (1 : Rat) ≤ ((D.getD (i + 1) 0 : Int) : Rat) := by
    rw [show (1 : Rat) = ((1 : Int) : Rat) from rfl, Rat.intCast_le_intCast]; omega
  have h2 : ((D.getD i 0 : Int) : Rat) ≤ ((B k : Int) : Rat) := Rat.intCast_le_intCast.2 (by omega)
  have hb1 := B_rp k
  have hb2 := B_rmul k k
  have hst : stq D i * ((D.getD i 0 : Int) : Rat) = ((D.getD (i + 1) 0 : Int) : Rat) := by
    unfold stq
    generalize ((D.getD i 0 : Int) : Rat) = x at *
    grind
  have hR2 := hR.2
  rw [show 2 * k = k + k by omega]
  unfold Rb
  rw [hb2]
  generalize stq D i = st at *
  generalize ((D.getD i 0 : Int) : Rat) = x at *
  generalize ((D.getD (i + 1) 0 : Int) : Rat) = x1 at *
  generalize ((B k : Int) : Rat) = b at *
  have hyy : 0 ≤ y * y := by
    rcases Rat.le_total (a := 0) (b := y) with h | h
    · exact Rat.mul_nonneg h h
    · have := Rat.mul_nonneg (show 0 ≤ -y by grind) (show 0 ≤ -y by grind)
      grind
  have q1 : y * y * st ≤ b := by grind
  have q2 : y * y * st * x ≤ b * x := Rat.mul_le_mul_of_nonneg_right q1 (Rat.le_of_lt h0)
  have q3 : y * y * st * x = y * y * x1 := by rw [← hst]; grind
  have q4 : 0 ≤ y * y * (x1 - 1) := Rat.mul_nonneg hyy (by grind)
  have q5 : 0 ≤ b * (b - x) := Rat.mul_nonneg (by grind) (by grind)
  have q6 : y * y ≤ b * b := by grind
  have q7 : 1 ≤ b * b := by
    have := Rat.mul_nonneg (show 0 ≤ b - 1 by grind) (show 0 ≤ b + 1 by grind)
    grind
  constructor
  · refine Rat.not_lt.1 fun hlt => ?_
    have := Rat.mul_nonneg (show 0 ≤ -y by grind) (show 0 ≤ -y - 1 by grind)
    grind
  · refine Rat.not_lt.1 fun hlt => ?_
    have := Rat.mul_nonneg (show 0 ≤ y by grind) (show 0 ≤ y - 1 by grind)
    grind
theorem least_not {P : Nat → Prop} : ∀ {n : Nat}, (¬ ∀ i, i < n → P i) → ∃ w, w < n ∧ ¬ P w ∧ ∀ i, i < w → P i
  | 0, h => absurd (fun i hi => absurd hi (Nat.not_lt_zero _)) h
  | n + 1, h => by
    classical
    by_cases h1 : ∀ i, i < n → P i
    · refine ⟨n, Nat.lt_succ_self _, fun hp => h fun i hi => ?_, h1⟩
      rcases Nat.lt_or_eq_of_le (Nat.le_of_lt_succ hi) with h2 | h2
      · exact h1 i h2
      · rw [h2]; exact hp
    · obtain ⟨w, k1, k2, k3⟩ := least_not h1
      exact ⟨w, by omega, k2, k3⟩
theorem stq_pos {D : List Int} {L : List (List Int)} {ts : List (Int × Int)} {n k : Nat} (h : TrS D L ts n k) {i : Nat} (hi : i < n) : 0 < stq D i := by
  have d0 := h.dp (i := i) (by omega)
  have d1 := h.dp (i := i + 1) (by omega)
  unfold stq
  rw [Rat.div_def]
  exact Rat.mul_pos (Rat.intCast_pos.2 d1) (Rat.inv_pos.2 (Rat.intCast_pos.2 d0))
theorem sq_nn (y : Rat) : 0 ≤ y * y := by
  rcases Rat.le_total (a := 0) (b := y) with h | h
  · exact Rat.mul_nonneg h h
  · have := Rat.mul_nonneg (show 0 ≤ -y by grind) (show 0 ≤ -y by grind)
    grind
theorem pt_nn {D : List Int} {L : List (List Int)} {ts : List (Int × Int)} {n k : Nat} (h : TrS D L ts n k) (s : List Int) {m : Nat} (hm : m + 1 = n) : ∀ {c : Nat}, c ≤ n → 0 ≤ ptT D L ts s m c
  | 0, _ => Rat.le_refl
  | c + 1, hc => by
    have h1 := pt_nn h s hm (c := c) (by omega)
    have h2 := Rat.mul_nonneg (sq_nn (((s.getD c 0 : Int) : Rat) - ctT D L ts s m (m - c) c)) (Rat.le_of_lt (stq_pos h (i := m - c) (by omega)))
    show 0 ≤ ptT D L ts s m c + _
    grind
theorem getD_snoc' {s : List Int} {x : Int} (j : Nat) : (s ++ [x]).getD j 0 = if j = s.length then x else s.getD j 0 := by
  simp only [List.getD_eq_getElem?_getD, List.getElem?_append]
  by_cases h : j < s.length
  · rw [if_pos h, if_neg (by omega)]
  · rw [if_neg h]
    by_cases h2 : j = s.length
    · rw [if_pos h2, h2]; simp
    · rw [if_neg h2, List.getElem?_eq_none (by simp; omega), List.getElem?_eq_none (by omega)]
theorem pt_snoc' (D : List Int) (L : List (List Int)) (ts : List (Int × Int)) (s : List Int) (m : Nat) (x : Int) : ptT D L ts (s ++ [x]) m (s.length + 1) = ptT D L ts s m s.length + ((x : Rat) - ctT D L ts s m (m - s.length) s.length) * ((x : Rat) - ctT D L ts s m (m - s.length) s.length) * stq D (m - s.length) := by
  show ptT D L ts (s ++ [x]) m s.length + _ = _
  have e1 : ptT D L ts (s ++ [x]) m s.length = ptT D L ts s m s.length := ptT_ext fun j hj => by rw [getD_snoc', if_neg (by omega)]
  have e2 : ctT D L ts (s ++ [x]) m (m - s.length) s.length = ctT D L ts s m (m - s.length) s.length := ctT_ext fun j hj => by rw [getD_snoc', if_neg (by omega)]
  rw [e1, e2, getD_snoc', if_pos rfl]
/-- How many children are nodes, and how large they are. -/
theorem kids_ex {D : List Int} {L : List (List Int)} {ts : List (Int × Int)} {n k : Nat} (h : TrS D L ts n k) {s : List Int} {b : Nat} (hkb : k ≤ b) (hs : ∀ j, zl (s.getD j 0) ≤ b) (hl : s.length < n) {R : Rat} (hR : Rb R k) :
    ∃ m, (∀ j, j ≤ m → zl (nth (ctT D L ts s (n - 1) (n - 1 - s.length) s.length) j) ≤ b + k + 20) ∧ (∀ j, j < m → ptT D L ts (s ++ [nth (ctT D L ts s (n - 1) (n - 1 - s.length) s.length) j]) (n - 1) (s.length + 1) ≤ R) ∧ ¬ ptT D L ts (s ++ [nth (ctT D L ts s (n - 1) (n - 1 - s.length) s.length) m]) (n - 1) (s.length + 1) ≤ R := by
  have hn := h.twelve
  have hc := Rb.mono (ct_Rb h hkb hs (m := n - 1) (i := n - 1 - s.length) (c := s.length) (by omega) (by omega)) (show _ ≤ b + k + 13 by omega)
  have hp := pt_nn h s (m := n - 1) (c := s.length) (by omega) (by omega)
  generalize hcc : ctT D L ts s (n - 1) (n - 1 - s.length) s.length = c at *
  -- a node's number is near
  have near : ∀ j, ptT D L ts (s ++ [nth c j]) (n - 1) (s.length + 1) ≤ R → (((j + 1) / 2 : Nat) : Int) ≤ B (b + k + 15) := fun j hj => by
    rw [pt_snoc', hcc] at hj
    have h1 := Rb.mono (near_Rb h (i := n - 1 - s.length) (by omega) hp hR hj) (show 2 * k ≤ b + k + 13 by omega)
    have h2 := Rb.sub (Rb.add h1 hc) (nea_Rb hc)
    have e : ((nth c j : Int) : Rat) - c + c - ((nea c : Int) : Rat) = ((nth c j - nea c : Int) : Rat) := by rw [Rat.intCast_sub]; grind
    rw [e, show b + k + 13 + 1 + 1 = b + k + 15 by omega] at h2
    unfold Rb at h2
    rw [← Rat.intCast_neg, Rat.intCast_le_intCast, Rat.intCast_le_intCast] at h2
    rcases nth_far c j with h3 | h3 <;> rw [h3] at h2 <;> omega
  have hbp := B_pos (b + k + 15)
  have hex : ¬ ∀ j, j < 2 * (B (b + k + 15)).toNat + 2 → ptT D L ts (s ++ [nth c j]) (n - 1) (s.length + 1) ≤ R := fun hall => by
    have := near (2 * (B (b + k + 15)).toNat + 1) (hall _ (by omega))
    omega
  obtain ⟨m, h1, h2, h3⟩ := least_not hex
  refine ⟨m, fun j hj => ?_, h3, h2⟩
  have hj2 : (((j + 1) / 2 : Nat) : Int) ≤ B (b + k + 16) := by
    rw [show b + k + 16 = b + k + 15 + 1 by omega, B_succ]
    omega
  exact Nat.le_trans (nth_zl (e := b + k + 15) (Rb.mono hc (by omega)) hj2) (by omega)
/-- Each suffix has its nodes. -/
theorem Bel.ex {D : List Int} {L : List (List Int)} {ts : List (Int × Int)} {n k K : Nat} (h : TrS D L ts n k) (hK : k + 12 * (k + 20) ≤ K) {R : Rat} (hR : Rb R k) : ∀ (r : Nat) {s : List Int} {d : Nat}, s.length = d → d + r = n → (∀ j, zl (s.getD j 0) ≤ k + d * (k + 20)) → ∃ ns, Bel D L ts n K R s d ns
  | 0, s, d, hs, hd, hz => ⟨[], by rw [show d = n by omega]; exact Bel.leaf s⟩
  | r + 1, s, d, hs, hd, hz => by
    have hn := h.twelve
    obtain ⟨m, h1, h2, h3⟩ := kids_ex h (s := s) (b := k + d * (k + 20)) (by omega) hz (by omega) hR
    rw [hs] at h1 h2 h3
    have e1 : (d + 1) * (k + 20) = d * (k + 20) + (k + 20) := Nat.succ_mul _ _
    have e2 : (d + 1) * (k + 20) ≤ 12 * (k + 20) := Nat.mul_le_mul_right _ (by omega)
    have ih : ∀ j, ∃ ns, j < m → Bel D L ts n K R (s ++ [nth (ctT D L ts s (n - 1) (n - 1 - d) d) j]) (d + 1) ns := fun j => by
      rcases Nat.lt_or_ge j m with hj | hj
      · obtain ⟨ns, hb⟩ := Bel.ex h hK hR r (s := s ++ [nth (ctT D L ts s (n - 1) (n - 1 - d) d) j]) (d := d + 1) (by simp [hs]) (by omega) (fun i => by
          rw [getD_snoc']
          split
          · have := h1 j (by omega); omega
          · have := hz i; omega)
        exact ⟨ns, fun _ => hb⟩
      · exact ⟨[], fun h => by omega⟩
    exact ⟨_, Bel.node s d m (fun j => Classical.choose (ih j)) (by omega) (fun j hj => by have := h1 j hj; omega) h2 h3 (fun j hj => Classical.choose_spec (ih j) hj)⟩
end Go.Proofs.Ytekghdfbhbhigaa.V
/- The nodes of a search tree: each begins with its suffix, each follows the one ahead of it. -/
set_option linter.unusedVariables false
set_option maxRecDepth 100000
namespace Go.Proofs.Ytekghdfbhbhigaa.V
open Go.RowKit Mt Nml
theorem fl_mem {s : List Int} {x : Nat → Int} {LL : Nat → List (List Int)} {q : List Int} : ∀ {m : Nat}, q ∈ fl s x LL m → ∃ j, j < m ∧ (q = s ++ [x j] ∨ q ∈ LL j)
  | 0, h => by cases h
  | m + 1, h => by
    rcases List.mem_append.1 h with h | h
    · obtain ⟨j, h1, h2⟩ := fl_mem h
      exact ⟨j, by omega, h2⟩
    · rcases List.mem_cons.1 h with h | h
      · exact ⟨m, by omega, .inl h⟩
      · exact ⟨m, by omega, .inr h⟩
/-- What is so of a node below s. -/
structure Nd (D : List Int) (L : List (List Int)) (ts : List (Int × Int)) (n k : Nat) (R : Rat) (s q : List Int) : Prop where
  gt : s.length < q.length
  le : q.length ≤ n
  zl : ∀ j, zl (q.getD j 0) ≤ k
  pt : ptT D L ts q (n - 1) q.length ≤ R
  bg : ∀ j, j < s.length → q.getD j 0 = s.getD j 0
theorem Bel.mem {D : List Int} {L : List (List Int)} {ts : List (Int × Int)} {n k : Nat} {R : Rat} {s : List Int} {d : Nat} {ns : List (List Int)} (h : Bel D L ts n k R s d ns) : s.length = d → (∀ j, Nml.zl (s.getD j 0) ≤ k) → ∀ q ∈ ns, Nd D L ts n k R s q := by
  induction h with
  | leaf s => exact fun _ _ q hq => by cases hq
  | node s d m LL hd hz hw hn hB ih =>
    intro hs hzs q hq
    subst hs
    obtain ⟨j, hj, h1 | h1⟩ := fl_mem hq
    · subst h1
      refine ⟨by simp, by simp; omega, fun i => ?_, ?_, fun i hi => ?_⟩
      · rw [getD_snoc']
        split
        · exact hz j (by omega)
        · exact hzs i
      · have := hw j hj
        rwa [show (s ++ [nth (ctT D L ts s (n - 1) (n - 1 - s.length) s.length) j]).length = s.length + 1 by simp]
      · rw [getD_snoc', if_neg (by omega)]
    · have h2 := ih j hj (by simp) (fun i => by
        rw [getD_snoc']
        split
        · exact hz j (by omega)
        · exact hzs i) q h1
      have h3 := h2.gt
      simp only [List.length_append, List.length_cons, List.length_nil] at h3
      refine ⟨by omega, h2.le, h2.zl, h2.pt, fun i hi => ?_⟩
      rw [h2.bg i (by simp; omega), getD_snoc', if_neg (by omega)]
/-- q may stand behind p. -/
def Lnk (p q : List Int) : Prop := q.length ≤ p.length + 1 ∧ 0 < q.length ∧ ∀ j, j + 1 < q.length → q.getD j 0 = p.getD j 0
def Chn : List Int → List (List Int) → Prop
  | _, [] => True
  | p, q :: r => Lnk p q ∧ Chn q r
def lastN (p : List Int) : List (List Int) → List Int
  | [] => p
  | q :: r => lastN q r
theorem lastN_mem {p : List Int} : ∀ {l : List (List Int)}, lastN p l = p ∨ lastN p l ∈ l
  | [] => .inl rfl
  | q :: r => by
    rcases lastN_mem (p := q) (l := r) with h | h
    · exact .inr (by show lastN q r ∈ _; rw [h]; exact List.mem_cons_self)
    · exact .inr (List.mem_cons_of_mem _ h)
theorem chn_append {p : List Int} {b : List (List Int)} : ∀ {a : List (List Int)}, Chn p a → Chn (lastN p a) b → Chn p (a ++ b)
  | [], _, h => h
  | q :: r, h, k => ⟨h.1, chn_append (a := r) h.2 k⟩
theorem chn_at {p : List Int} : ∀ {l : List (List Int)}, Chn p l → ∀ i, i < l.length → Lnk (if i = 0 then p else l.getD (i - 1) []) (l.getD i [])
  | [], _, i, hi => absurd hi (Nat.not_lt_zero _)
  | q :: r, h, 0, _ => h.1
  | q :: r, h, i + 1, hi => by
    have := chn_at (p := q) (l := r) h.2 i (by simp at hi; omega)
    rw [if_neg (by omega)]
    show Lnk ((q :: r).getD i []) (r.getD i [])
    cases i with
    | zero => exact this
    | succ i => exact this
theorem Bel.chn {D : List Int} {L : List (List Int)} {ts : List (Int × Int)} {n k : Nat} {R : Rat} {s : List Int} {d : Nat} {ns : List (List Int)} (h : Bel D L ts n k R s d ns) : s.length = d → (∀ j, Nml.zl (s.getD j 0) ≤ k) → Chn s ns := by
  induction h with
  | leaf s => exact fun _ _ => trivial
  | node s d m LL hd hz hw hn hB ih =>
    intro hs hzs
    subst hs
    have key : ∀ m', m' ≤ m → Chn s (fl s (nth (ctT D L ts s (n - 1) (n - 1 - s.length) s.length)) LL m') := by
      intro m'
      induction m' with
      | zero => exact fun _ => trivial
      | succ m' ih' =>
        intro hm'
        have hzn : ∀ i, Nml.zl ((s ++ [nth (ctT D L ts s (n - 1) (n - 1 - s.length) s.length) m']).getD i 0) ≤ k := fun i => by
          rw [getD_snoc']
          split
          · exact hz m' (by omega)
          · exact hzs i
        refine chn_append (ih' (by omega)) ⟨?_, ih m' (by omega) (by simp) hzn⟩
        have hb : s.length ≤ (lastN s (fl s (nth (ctT D L ts s (n - 1) (n - 1 - s.length) s.length)) LL m')).length ∧ ∀ j, j < s.length → (lastN s (fl s (nth (ctT D L ts s (n - 1) (n - 1 - s.length) s.length)) LL m')).getD j 0 = s.getD j 0 := by
          rcases lastN_mem (p := s) (l := fl s (nth (ctT D L ts s (n - 1) (n - 1 - s.length) s.length)) LL m') with h1 | h1
          · rw [h1]; exact ⟨Nat.le_refl _, fun _ _ => rfl⟩
          · obtain ⟨j, hj, h2 | h2⟩ := fl_mem h1
            · rw [h2]
              exact ⟨by simp, fun i hi => by rw [getD_snoc', if_neg (by omega)]⟩
            · have h3 := Bel.mem (hB j (by omega)) (by simp) (fun i => by
                rw [getD_snoc']
                split
                · exact hz j (by omega)
                · exact hzs i) _ h2
              have h4 := h3.gt
              simp only [List.length_append, List.length_cons, List.length_nil] at h4
              exact ⟨by omega, fun i hi => by rw [h3.bg i (by simp; omega), getD_snoc', if_neg (by omega)]⟩
        refine ⟨by simp; omega, by simp, fun j hj => ?_⟩
        simp only [List.length_append, List.length_cons, List.length_nil] at hj
        rw [getD_snoc', if_neg (by omega), hb.2 j (by omega)]
    exact key m (Nat.le_refl _)
end Go.Proofs.Ytekghdfbhbhigaa.V
/- A walk through a search tree without recursion: which node comes behind another one. -/
set_option linter.unusedVariables false
set_option maxRecDepth 100000
namespace Go.Proofs.Ytekghdfbhbhigaa.V
open Go.RowKit Mt Nml
section
variable (D : List Int) (L : List (List Int)) (ts : List (Int × Int)) (n : Nat) (R : Rat) (r : Nat)
/-- A suffix within the bound; its centre. -/
def Wi (q : List Int) : Prop := ptT D L ts q (n - 1) q.length ≤ R
def cq_ (q : List Int) : Rat := ctT D L ts q (n - 1) (n - 1 - q.length) q.length
/-- What comes behind a suffix and all below it: no higher than r numbers. -/
inductive Ov : List Int → Option (List Int) → Prop
  | stop (q : List Int) : q.length ≤ r → Ov q none
  | go (q : List Int) (x : Int) : r < q.length + 1 → Wi D L ts n R (q ++ [bhd (cq_ D L ts n q) x]) → Ov (q ++ [x]) (some (q ++ [bhd (cq_ D L ts n q) x]))
  | up (q : List Int) (x : Int) (res : Option (List Int)) : r < q.length + 1 → ¬ Wi D L ts n R (q ++ [bhd (cq_ D L ts n q) x]) → Ov q res → Ov (q ++ [x]) res
/-- What comes behind a suffix. -/
def Dn (q : List Int) (res : Option (List Int)) : Prop := (q.length < n ∧ Wi D L ts n R (q ++ [nea (cq_ D L ts n q)]) ∧ res = some (q ++ [nea (cq_ D L ts n q)])) ∨ (¬ (q.length < n ∧ Wi D L ts n R (q ++ [nea (cq_ D L ts n q)])) ∧ Ov D L ts n R r q res)
/-- These come one behind another, then res. -/
def Rn : List Int → List (List Int) → Option (List Int) → Prop
  | p, [], res => Dn D L ts n R r p res
  | p, q :: l, res => Dn D L ts n R r p (some q) ∧ Rn q l res
end
section
variable {D : List Int} {L : List (List Int)} {ts : List (Int × Int)} {n : Nat} {R : Rat} {r : Nat}
theorem rn_append {res : Option (List Int)} {q : List Int} {b : List (List Int)} : ∀ {p : List Int} {a : List (List Int)}, Rn D L ts n R r p a (some q) → Rn D L ts n R r q b res → Rn D L ts n R r p (a ++ q :: b) res
  | p, [], h, k => ⟨h, k⟩
  | p, x :: a, h, k => ⟨h.1, rn_append (p := x) (a := a) h.2 k⟩
theorem Bel.run {k : Nat} {s : List Int} {d : Nat} {ns : List (List Int)} (h : Bel D L ts n k R s d ns) : s.length = d → r ≤ d → ∀ {res : Option (List Int)}, Ov D L ts n R r s res → Rn D L ts n R r s ns res := by
  induction h with
  | leaf s => exact fun hs hr res ho => .inr ⟨fun h => by omega, ho⟩
  | node s d m LL hd hz hw hn hB ih =>
    intro hs hr res ho
    subst hs
    have hwi : ∀ x : Int, Wi D L ts n R (s ++ [x]) ↔ ptT D L ts (s ++ [x]) (n - 1) (s.length + 1) ≤ R := fun x => by unfold Wi; rw [show (s ++ [x]).length = s.length + 1 by simp]
    have hc : cq_ D L ts n s = ctT D L ts s (n - 1) (n - 1 - s.length) s.length := rfl
    have key : ∀ m', m' ≤ m → ∀ res', (m' = 0 → Dn D L ts n R r s res') → (∀ j, m' = j + 1 → Ov D L ts n R r (s ++ [nth (ctT D L ts s (n - 1) (n - 1 - s.length) s.length) j]) res') → Rn D L ts n R r s (fl s (nth (ctT D L ts s (n - 1) (n - 1 - s.length) s.length)) LL m') res' := by
      intro m'
      induction m' with
      | zero => exact fun _ res' h0 _ => h0 rfl
      | succ m' ih' =>
        intro hm' res' _ h1
        refine rn_append (ih' (by omega) _ (fun h0 => ?_) (fun j hj => ?_)) (ih m' (by omega) (by simp) (by omega) (h1 m' rfl))
        · subst h0
          have := (hwi _).2 (hw 0 (by omega))
          rw [nth_zero] at this ⊢
          exact .inl ⟨hd, this, rfl⟩
        · subst hj
          have := (hwi _).2 (hw (j + 1) (by omega))
          rw [← bhd_nth] at this ⊢
          exact Ov.go s _ (by omega) this
    refine key m (Nat.le_refl _) res (fun h0 => ?_) (fun j hj => ?_)
    · subst h0
      refine .inr ⟨fun h => hn ?_, ho⟩
      rw [nth_zero]
      exact (hwi _).1 h.2
    · subst hj
      refine Ov.up s _ res (by omega) (fun h => hn ?_) ho
      rw [← bhd_nth]
      exact (hwi _).1 h
end
end Go.Proofs.Ytekghdfbhbhigaa.V
/- Search trees: the children of a suffix. -/
set_option linter.unusedVariables false
set_option linter.unusedSimpArgs false
set_option maxRecDepth 100000
namespace Go.Proofs.Ytekghdfbhbhigaa.V
open Go.RowKit Mt Nml
/-- The first numbers about a centre. -/
def kl (c : Rat) (j : Nat) : List Int := (List.range j).map (nth c)
theorem kl_succ {c : Rat} {j : Nat} : kl c j ++ [nth c j] = kl c (j + 1) := by simp [kl, List.range_succ]
theorem kl_len {c : Rat} {j : Nat} : (kl c j).length = j := by simp [kl]
theorem kl_at {c : Rat} {i j : Nat} (h : i < j) : (kl c j).getD i 0 = nth c i := rng_at h

theorem t_Kids {D : List Int} {L : List (List Int)} {ts : List (Int × Int)} {a b : Int} {n k : Nat} (h : TrS D L ts n k) {s : List Int} {m mo : Nat} (hb : 0 < b) (ha : 0 ≤ a) (hs : s.length + 1 ≤ n) (hx : ∀ j, j ≤ m → zl (nth (ctT D L ts s (n - 1) (n - 1 - s.length) s.length) j) ≤ k) (hw : ∀ j, j < m → ptT D L ts (s ++ [nth (ctT D L ts s (n - 1) (n - 1 - s.length) s.length) j]) (n - 1) (s.length + 1) ≤ (a : Rat) / (b : Rat)) (hn : ¬ ptT D L ts (s ++ [nth (ctT D L ts s (n - 1) (n - 1 - s.length) s.length) m]) (n - 1) (s.length + 1) ≤ (a : Rat) / (b : Rat)) (hmo : mo ≤ 65536) (hin : ptT D L ts s (n - 1) s.length ≤ (a : Rat) / (b : Rat)) : Fn Try.prog 28 [T.Tr D L ts a b k, T.l (cZi k) s, T.c (.int .i64 (mo : Int))] [] [] [] (T.tup [T.l (cZ k) (kl (ctT D L ts s (n - 1) (n - 1 - s.length) s.length) (min m mo)), T.c (.bool (decide (m ≤ mo))), T.c (.int .i64 0)]) := by
  refine fn_ofM Try.func28 rfl (by show 3 ≤ 48; decide) fun cx hcx => ?_
  refine tri_sub (sl 0 rfl (sl 1 rfl (sl 2 rfl sn))) en ?_
  have hn12 := h.twelve
  have hkk := h.hk
  have hlL := h.len
  have hn0 := h.pos
  refine tri_lz 1 rfl fun hz => ?_
  refine tri_seq ?_
  refine tri_reg mixed hcx ?_ _ _
  refine bxs 10 rfl ?_
  refine bx 11 rfl ?_
  refine nw 12 zeZs ?_
  refine nw 13 zeB ?_
  refine nw 14 zeE ?_
  refine ⟨by kernel_rfl, ?_⟩
  refine nx (sl 1 rfl (sl 3 rfl (sl 5 rfl (sl 6 rfl (sl 7 rfl (sl 8 rfl sn)))))) (el 10 rfl (el 11 rfl (el 12 rfl (el 13 rfl (el 14 rfl en))))) ?_
  refine tri_seq ?_
  refine tri_seq ?_
  refine tri_reg mixed hcx ?_ _ _
  refine ld rfl rfl tyTr rfl ?_
  refine mv rfl ?_
  refine fa rfl fTrG 0 ?_
  refine fa rfl fL 1 ?_
  refine ld rfl rfl tyZss rfl ?_
  refine ln slZss rfl ?_
  refine sb (((n - 1 : Nat) : Int)) rfl rfl rfl (by omega) ?_
  refine ld rfl rfl tyI rfl ?_
  refine ca rfl (h := t_counted h hb ha (m := n - 1) (by omega) (by omega) hmo) (hn := ?_)
  refine asg rfl ?_
  refine ⟨by kernel_rfl, ?_⟩
  refine nx (sl 1 rfl (sl 3 rfl (sl 5 rfl (sl 6 rfl (sl 7 rfl (sl 8 rfl (sl 9 rfl sn))))))) (el 10 rfl (el 11 rfl (el 12 rfl (el 13 rfl (el 14 rfl en))))) ?_
  refine tri_seq ?_
  refine tri_reg mixed hcx ?_ _ _
  refine mv rfl ?_
  refine cne rfl rfl (decide_eq_false (by omega)) ?_
  refine ⟨by kernel_rfl, ?_⟩
  refine nx (sl 1 rfl (sl 3 rfl (sl 5 rfl (sl 6 rfl (sl 7 rfl (sl 8 rfl (sl 9 rfl (sl 23 rfl sn)))))))) (el 10 rfl (el 11 rfl (el 12 rfl (el 13 rfl (el 14 rfl en))))) ?_
  refine tri_false rfl rfl ?_
  refine tri_skip ?_
  refine nx (sl 1 rfl (sl 3 rfl (sl 5 rfl (sl 6 rfl (sl 7 rfl (sl 8 rfl sn)))))) (el 10 rfl (el 11 rfl (el 12 rfl (el 13 rfl (el 14 rfl en))))) ?_
  refine tri_seq ?_
  refine tri_reg mixed hcx ?_ _ _
  refine ld rfl rfl tyTr rfl ?_
  refine mv rfl ?_
  refine ca rfl (h := t_part h (by omega)) (hn := ?_)
  refine nw 413 zeQ ?_
  refine st rfl rfl rfl tyQ rfl ?_
  refine ⟨by kernel_rfl, ?_⟩
  refine nx (sl 1 rfl (sl 3 rfl (sl 5 rfl (sl 6 rfl (sl 7 rfl (sl 8 rfl (sl 10 rfl sn))))))) (el 10 rfl (el 11 rfl (el 12 rfl (el 13 rfl (el 14 rfl (el 413 rfl en)))))) ?_
  refine tri_seq ?_
  refine tri_seq ?_
  refine tri_reg mixed hcx ?_ _ _
  refine ld rfl rfl tyTr rfl ?_
  refine ld rfl rfl tyQ rfl ?_
  refine cb rfl (h := t_within hb (by omega) (by omega)) (hn := ?_)
  refine nt rfl _ (show (!decide _) = false from by rw [decide_eq_true hin]; rfl) ?_
  refine ⟨by kernel_rfl, ?_⟩
  refine nx (sl 1 rfl (sl 3 rfl (sl 5 rfl (sl 6 rfl (sl 7 rfl (sl 8 rfl (sl 10 rfl (sl 31 rfl sn)))))))) (el 10 rfl (el 11 rfl (el 12 rfl (el 13 rfl (el 14 rfl (el 413 rfl en)))))) ?_
  refine tri_false rfl rfl ?_
  refine tri_skip ?_
  refine nx (sl 1 rfl (sl 3 rfl (sl 5 rfl (sl 6 rfl (sl 7 rfl (sl 8 rfl (sl 10 rfl sn))))))) (el 10 rfl (el 11 rfl (el 12 rfl (el 13 rfl (el 14 rfl (el 413 rfl en)))))) ?_
  refine tri_seq ?_
  refine tri_reg mixed hcx ?_ _ _
  refine nw 710 zeZs ?_
  refine ⟨by kernel_rfl, ?_⟩
  refine nx (sl 1 rfl (sl 3 rfl (sl 5 rfl (sl 6 rfl (sl 7 rfl (sl 8 rfl (sl 10 rfl (sl 11 rfl sn)))))))) (el 10 rfl (el 11 rfl (el 12 rfl (el 13 rfl (el 14 rfl (el 413 rfl (el 710 rfl en))))))) ?_
  refine tri_seq ?_
  refine tri_seq ?_
  rcases Nat.lt_or_ge mo m with hlt | hle
  · refine tri_nilb (cZ k) 38 (bl := [T.c (.slice none 0 0)]) (bl' := [T.o 9]) 710 9 rfl ⟨.inr ⟨rfl, rfl⟩, trivial⟩ (by rw [hcx]; kernel_rfl) ?_
    refine tri_reg mixed hcx ?_ _ _
    refine ld rfl rfl tyTr rfl ?_
    refine mv rfl ?_
    refine ld rfl rfl tyQ rfl ?_
    refine ca rfl (h := t_kids) (hn := ?_)
    refine ⟨by kernel_rfl, ?_⟩
    refine nx (sl 5 rfl (sl 6 rfl (sl 7 rfl (sl 8 rfl (sl 11 rfl (sl 35 rfl sn)))))) (el 10 rfl (el 11 rfl (el 12 rfl (el 13 rfl (el 14 rfl (el 413 rfl (el 710 rfl (el 9 rfl en)))))))) ?_
    refine tri_block ?_
    refine tri_range (ι := Nat) (κ := Unit) (f := 88) (Caps := [T.fp (T.Tr D L ts a b k), T.fp (T.l (cZi k) s), T.fp (T.Q (ptT D L ts s (n - 1) s.length) 15100000000)]) (R := T.tup []) (g' := [(5, T.p 11 0), (6, T.p 12 0), (7, T.p 13 0), (8, T.p 14 0), (11, T.p 710 0)]) (fun j => [(11, some (Ent.box 3 [T.c (.int .i64 (mo : Int))])), (12, some (Ent.box 31 [T.c (.slice none 0 0)])), (13, some (Ent.box 4 [T.c (.bool false)])), (14, some (Ent.box 23 [T.c (.int .i64 0)])), (9, some (Ent.row (cZ k) 38 (kl (ctT D L ts s (n - 1) (n - 1 - s.length) s.length) j))), (710, some (Ent.box 31 [T.o 9]))]) (fun _ => [(11, some (Ent.box 3 [T.c (.int .i64 (mo : Int))])), (12, some (Ent.box 31 [T.o 9])), (13, some (Ent.box 4 [T.c (.bool false)])), (14, some (Ent.box 23 [T.c (.int .i64 0)])), (9, some (Ent.row (cZ k) 38 (kl (ctT D L ts s (n - 1) (n - 1 - s.length) s.length) mo))), (710, some (Ent.box 31 [T.o 9]))]) (fun _ => .ret) (fun j X o => (j < mo ∧ X = (T.Ch (nth (ctT D L ts s (n - 1) (n - 1 - s.length) s.length) j) k (ptT D L ts (s ++ [nth (ctT D L ts s (n - 1) (n - 1 - s.length) s.length) j]) (n - 1) (s.length + 1)) 15100000000) ∧ o = .inl (j + 1)) ∨ (j = mo ∧ X = (T.Ch (nth (ctT D L ts s (n - 1) (n - 1 - s.length) s.length) j) k (ptT D L ts (s ++ [nth (ctT D L ts s (n - 1) (n - 1 - s.length) s.length) j]) (n - 1) (s.length + 1)) 15100000000) ∧ o = .inr ())) (0) (.inr ()) rfl hcx rfl (by intro a w; kernel_rfl) (by decide) (sl 5 rfl (sl 6 rfl (sl 7 rfl (sl 8 rfl (sl 11 rfl sn))))) (el 11 rfl (el 12 rfl (el 13 rfl (el 14 rfl (el 9 rfl (el 710 rfl en)))))) ?_ ?_ ?_ ?_
    · intro lw W V hW
      exact t_kids1 (Z := W) (zf := V ()) (K := mo) h hb hs hz (fun j hj => hx j (by omega)) (fun j hj => hw j (by omega)) (fun j hj => hW j _ (.inl (j + 1)) (.inl ⟨hj, rfl, rfl⟩)) (.inr ⟨hw mo hlt, hW mo _ (.inr ()) (.inr ⟨rfl, rfl, rfl⟩)⟩)
    · rintro j X o (⟨_, rfl, _⟩ | ⟨_, rfl, _⟩) <;> rfl
    · rintro lr dB rr c' hrd hdf hcx' j X o (⟨hj, rfl, rfl⟩ | ⟨hj, rfl, rfl⟩)
      · have hkl := @kl_len (ctT D L ts s (n - 1) (n - 1 - s.length) s.length) j
        refine tri_reg mixed hcx' ?_ _ _
        refine nw 910 zeCh ?_
        refine sts rfl rfl rfl tyCh rfl ?_
        refine ⟨by kernel_rfl, ?_⟩
        refine nx_begin hrd rfl (sl 5 rfl (sl 6 rfl (sl 7 rfl (sl 8 rfl (sl 11 rfl (sl 12 rfl sn)))))) (el 702 rfl (el 701 rfl (el 11 rfl (el 12 rfl (el 13 rfl (el 14 rfl (el 9 rfl (el 710 rfl (el 910 rfl en))))))))) ?_
        refine tri_block ?_
        refine tri_seq ?_
        refine tri_seq ?_
        refine tri_reg mixed hcx' ?_ _ _
        refine ld rfl rfl tyZs rfl ?_
        refine lno slZs rfl rfl ?_
        refine ld rfl rfl tyI rfl ?_
        refine ceq rfl rfl (decide_eq_false (by omega)) ?_
        refine ⟨by kernel_rfl, ?_⟩
        refine nx (sl 6 rfl (sl 7 rfl (sl 8 rfl (sl 11 rfl (sl 12 rfl (sl 40 rfl sn)))))) (el 702 rfl (el 701 rfl (el 11 rfl (el 12 rfl (el 13 rfl (el 14 rfl (el 9 rfl (el 710 rfl (el 910 rfl en))))))))) ?_
        refine tri_false rfl rfl ?_
        refine tri_skip ?_
        refine nx (sl 11 rfl (sl 12 rfl sn)) (el 702 rfl (el 701 rfl (el 11 rfl (el 12 rfl (el 13 rfl (el 14 rfl (el 9 rfl (el 710 rfl (el 910 rfl en))))))))) ?_
        refine tri_reg mixed hcx' ?_ _ _
        refine ld rfl rfl tyZs rfl ?_
        refine fa rfl fChx 0 ?_
        refine ld rfl rfl tyZ rfl ?_
        refine bs (c := cZ k) (xs := [nth (ctT D L ts s (n - 1) (n - 1 - s.length) s.length) j]) slZs rfl ⟨.refl _, trivial⟩ ?_
        refine ap 1214 rfl rfl rfl slZs (by simp only [List.length_cons, List.length_nil]; omega) (by decide) ?_
        refine st rfl rfl rfl tyZs rfl ?_
        refine ⟨by kernel_rfl, ?_⟩
        refine pn_blk ?_
        refine pn_sub sn (el 702 rfl (el 701 rfl (el 11 rfl (el 12 rfl (el 13 rfl (el 14 rfl (el 1214 rfl (el 710 rfl en)))))))) ?_
        refine pn_renb (bl := [T.o 1214]) (bl' := [T.o 9]) 710 9 1214 rfl rfl ⟨.inr ⟨rfl, rfl⟩, trivial⟩ (by rw [hcx']; kernel_rfl) rfl ?_
        exact rq_go (el 702 rfl (el 701 rfl (el 11 rfl (el 12 rfl (el 13 rfl (el 14 rfl (ew 9 rfl (.of (by rw [kl_succ])) (el 710 rfl en))))))))
      · have hkl := @kl_len (ctT D L ts s (n - 1) (n - 1 - s.length) s.length) j
        refine tri_reg mixed hcx' ?_ _ _
        refine nw 910 zeCh ?_
        refine sts rfl rfl rfl tyCh rfl ?_
        refine ⟨by kernel_rfl, ?_⟩
        refine nx_begin hrd rfl (sl 5 rfl (sl 6 rfl (sl 7 rfl (sl 8 rfl (sl 11 rfl (sl 12 rfl sn)))))) (el 702 rfl (el 701 rfl (el 11 rfl (el 12 rfl (el 13 rfl (el 14 rfl (el 9 rfl (el 710 rfl (el 910 rfl en))))))))) ?_
        refine tri_block ?_
        refine tri_seq ?_
        refine tri_seq ?_
        refine tri_reg mixed hcx' ?_ _ _
        refine ld rfl rfl tyZs rfl ?_
        refine lno slZs rfl rfl ?_
        refine ld rfl rfl tyI rfl ?_
        refine ceq rfl rfl (decide_eq_true (by omega)) ?_
        refine ⟨by kernel_rfl, ?_⟩
        refine nx (sl 6 rfl (sl 7 rfl (sl 8 rfl (sl 11 rfl (sl 12 rfl (sl 40 rfl sn)))))) (el 702 rfl (el 701 rfl (el 11 rfl (el 12 rfl (el 13 rfl (el 14 rfl (el 9 rfl (el 710 rfl (el 910 rfl en))))))))) ?_
        refine tri_true rfl rfl ?_
        refine tri_seq ?_
        refine tri_reg mixed hcx' ?_ _ _
        refine ld rfl rfl tyZs rfl ?_
        refine st rfl rfl rfl tyZs rfl ?_
        refine st rfl rfl rfl tyB rfl ?_
        refine st rfl rfl rfl tyE rfl ?_
        refine ⟨by kernel_rfl, ?_⟩
        refine nx (sl 6 rfl (sl 7 rfl (sl 8 rfl sn))) (el 702 rfl (el 701 rfl (el 11 rfl (el 12 rfl (el 13 rfl (el 14 rfl (el 9 rfl (el 710 rfl (el 910 rfl en))))))))) ?_
        refine tri_ret ?_
        repeat (first | refine pn_thenr ?_ | refine pn_blkr ?_)
        exact rq_ret (el 702 rfl (el 701 rfl (el 11 rfl (el 12 rfl (el 13 rfl (el 14 rfl (ew 9 rfl (.of (by rw [hj])) (el 710 rfl en))))))))
    · intro lr dB oo
      refine done_stop ?_
      refine tri_fz 9 rfl ?_
      refine tri_rdb (bl := [T.o 9]) (bl' := [T.l (cZ k) (kl (ctT D L ts s (n - 1) (n - 1 - s.length) s.length) mo)]) 12 9 rfl rfl ⟨.inr ⟨rfl, rfl⟩, trivial⟩ ?_
      refine tri_ret ?_
      repeat (first | refine pn_thenr ?_ | refine pn_blkr ?_)
      refine ret_M1 (.inl rfl) rfl rfl ?_
      exact ret3 hcx rfl (rv_cell (c' := cx) (n := 0) rfl rfl tyZs rfl) (rv_cell (c' := cx) (n := 0) rfl rfl tyB rfl) (rv_cell (c' := cx) (n := 0) rfl rfl tyE rfl) (tup_le ⟨.of (by rw [Nat.min_eq_right (by omega)]), .of (by rw [decide_eq_false (by omega)]), .refl _, trivial⟩) en
  · refine tri_nilb (cZ k) 38 (bl := [T.c (.slice none 0 0)]) (bl' := [T.o 9]) 710 9 rfl ⟨.inr ⟨rfl, rfl⟩, trivial⟩ (by rw [hcx]; kernel_rfl) ?_
    refine tri_reg mixed hcx ?_ _ _
    refine ld rfl rfl tyTr rfl ?_
    refine mv rfl ?_
    refine ld rfl rfl tyQ rfl ?_
    refine ca rfl (h := t_kids) (hn := ?_)
    refine ⟨by kernel_rfl, ?_⟩
    refine nx (sl 5 rfl (sl 6 rfl (sl 7 rfl (sl 8 rfl (sl 11 rfl (sl 35 rfl sn)))))) (el 10 rfl (el 11 rfl (el 12 rfl (el 13 rfl (el 14 rfl (el 413 rfl (el 710 rfl (el 9 rfl en)))))))) ?_
    refine tri_block ?_
    refine tri_range (ι := Nat) (κ := Unit) (f := 88) (Caps := [T.fp (T.Tr D L ts a b k), T.fp (T.l (cZi k) s), T.fp (T.Q (ptT D L ts s (n - 1) s.length) 15100000000)]) (R := T.tup []) (g' := [(5, T.p 11 0), (6, T.p 12 0), (7, T.p 13 0), (8, T.p 14 0), (11, T.p 710 0)]) (fun j => [(11, some (Ent.box 3 [T.c (.int .i64 (mo : Int))])), (12, some (Ent.box 31 [T.c (.slice none 0 0)])), (13, some (Ent.box 4 [T.c (.bool false)])), (14, some (Ent.box 23 [T.c (.int .i64 0)])), (9, some (Ent.row (cZ k) 38 (kl (ctT D L ts s (n - 1) (n - 1 - s.length) s.length) j))), (710, some (Ent.box 31 [T.o 9]))]) (fun _ => [(11, some (Ent.box 3 [T.c (.int .i64 (mo : Int))])), (12, some (Ent.box 31 [T.o 9])), (13, some (Ent.box 4 [T.c (.bool false)])), (14, some (Ent.box 23 [T.c (.int .i64 0)])), (9, some (Ent.row (cZ k) 38 (kl (ctT D L ts s (n - 1) (n - 1 - s.length) s.length) mo))), (710, some (Ent.box 31 [T.o 9]))]) (fun _ => .ret) (fun j X o => j < m ∧ X = (T.Ch (nth (ctT D L ts s (n - 1) (n - 1 - s.length) s.length) j) k (ptT D L ts (s ++ [nth (ctT D L ts s (n - 1) (n - 1 - s.length) s.length) j]) (n - 1) (s.length + 1)) 15100000000) ∧ o = .inl (j + 1)) (0) (.inl m) rfl hcx rfl (by intro a w; kernel_rfl) (by decide) (sl 5 rfl (sl 6 rfl (sl 7 rfl (sl 8 rfl (sl 11 rfl sn))))) (el 11 rfl (el 12 rfl (el 13 rfl (el 14 rfl (el 9 rfl (el 710 rfl en)))))) ?_ ?_ ?_ ?_
    · intro lw W V hW
      exact t_kids1 (Z := W) (zf := W m) (K := m) h hb hs hz (fun j hj => hx j (by omega)) (fun j hj => hw j (by omega)) (fun j hj => hW j _ (.inl (j + 1)) ⟨hj, rfl, rfl⟩) (.inl ⟨hn, rfl⟩)
    · rintro j X o ⟨_, rfl, _⟩ <;> rfl
    · rintro lr dB rr c' hrd hdf hcx' j X o ⟨hj, rfl, rfl⟩
      · have hkl := @kl_len (ctT D L ts s (n - 1) (n - 1 - s.length) s.length) j
        refine tri_reg mixed hcx' ?_ _ _
        refine nw 910 zeCh ?_
        refine sts rfl rfl rfl tyCh rfl ?_
        refine ⟨by kernel_rfl, ?_⟩
        refine nx_begin hrd rfl (sl 5 rfl (sl 6 rfl (sl 7 rfl (sl 8 rfl (sl 11 rfl (sl 12 rfl sn)))))) (el 702 rfl (el 701 rfl (el 11 rfl (el 12 rfl (el 13 rfl (el 14 rfl (el 9 rfl (el 710 rfl (el 910 rfl en))))))))) ?_
        refine tri_block ?_
        refine tri_seq ?_
        refine tri_seq ?_
        refine tri_reg mixed hcx' ?_ _ _
        refine ld rfl rfl tyZs rfl ?_
        refine lno slZs rfl rfl ?_
        refine ld rfl rfl tyI rfl ?_
        refine ceq rfl rfl (decide_eq_false (by omega)) ?_
        refine ⟨by kernel_rfl, ?_⟩
        refine nx (sl 6 rfl (sl 7 rfl (sl 8 rfl (sl 11 rfl (sl 12 rfl (sl 40 rfl sn)))))) (el 702 rfl (el 701 rfl (el 11 rfl (el 12 rfl (el 13 rfl (el 14 rfl (el 9 rfl (el 710 rfl (el 910 rfl en))))))))) ?_
        refine tri_false rfl rfl ?_
        refine tri_skip ?_
        refine nx (sl 11 rfl (sl 12 rfl sn)) (el 702 rfl (el 701 rfl (el 11 rfl (el 12 rfl (el 13 rfl (el 14 rfl (el 9 rfl (el 710 rfl (el 910 rfl en))))))))) ?_
        refine tri_reg mixed hcx' ?_ _ _
        refine ld rfl rfl tyZs rfl ?_
        refine fa rfl fChx 0 ?_
        refine ld rfl rfl tyZ rfl ?_
        refine bs (c := cZ k) (xs := [nth (ctT D L ts s (n - 1) (n - 1 - s.length) s.length) j]) slZs rfl ⟨.refl _, trivial⟩ ?_
        refine ap 1214 rfl rfl rfl slZs (by simp only [List.length_cons, List.length_nil]; omega) (by decide) ?_
        refine st rfl rfl rfl tyZs rfl ?_
        refine ⟨by kernel_rfl, ?_⟩
        refine pn_blk ?_
        refine pn_sub sn (el 702 rfl (el 701 rfl (el 11 rfl (el 12 rfl (el 13 rfl (el 14 rfl (el 1214 rfl (el 710 rfl en)))))))) ?_
        refine pn_renb (bl := [T.o 1214]) (bl' := [T.o 9]) 710 9 1214 rfl rfl ⟨.inr ⟨rfl, rfl⟩, trivial⟩ (by rw [hcx']; kernel_rfl) rfl ?_
        exact rq_go (el 702 rfl (el 701 rfl (el 11 rfl (el 12 rfl (el 13 rfl (el 14 rfl (ew 9 rfl (.of (by rw [kl_succ])) (el 710 rfl en))))))))
    · intro lr dB oo
      refine done_go ?_
      refine pn_blk ?_
      refine nx (sl 6 rfl (sl 7 rfl (sl 8 rfl (sl 11 rfl sn)))) (el 702 rfl (el 701 rfl (el 11 rfl (el 12 rfl (el 13 rfl (el 14 rfl (el 9 rfl (el 710 rfl en)))))))) ?_
      refine tri_seq ?_
      refine tri_reg mixed (show (cx.up.put dB).I = _ from hcx) ?_ _ _
      refine ld rfl rfl tyZs rfl ?_
      refine st rfl rfl rfl tyZs rfl ?_
      refine st rfl rfl rfl tyB rfl ?_
      refine st rfl rfl rfl tyE rfl ?_
      refine ⟨by kernel_rfl, ?_⟩
      refine nx (sl 6 rfl (sl 7 rfl (sl 8 rfl sn))) (el 702 rfl (el 701 rfl (el 11 rfl (el 12 rfl (el 13 rfl (el 14 rfl (el 9 rfl (el 710 rfl en)))))))) ?_
      refine tri_fz 9 rfl ?_
      refine tri_rdb (bl := [T.o 9]) (bl' := [T.l (cZ k) (kl (ctT D L ts s (n - 1) (n - 1 - s.length) s.length) m)]) 12 9 rfl rfl ⟨.inr ⟨rfl, rfl⟩, trivial⟩ ?_
      refine tri_ret ?_
      repeat (first | refine pn_thenr ?_ | refine pn_blkr ?_)
      refine ret_M1 (.inl rfl) rfl rfl ?_
      exact ret3 hcx rfl (rv_cell (c' := cx) (n := 0) rfl rfl tyZs rfl) (rv_cell (c' := cx) (n := 0) rfl rfl tyB rfl) (rv_cell (c' := cx) (n := 0) rfl rfl tyE rfl) (tup_le ⟨.of (by rw [Nat.min_eq_left (by omega)]), .of (by rw [decide_eq_true hle]), .refl _, trivial⟩) en

theorem TrS.mono {D : List Int} {L : List (List Int)} {ts : List (Int × Int)} {n k K : Nat} (h : TrS D L ts n k) (hk : k ≤ K) (hK : K ≤ 16777216) : TrS D L ts n K where
  good := h.good
  len := h.len
  twelve := h.twelve
  tl := h.tl
  tp := h.tp
  zt := fun i hi => ⟨Nat.le_trans (h.zt i hi).1 hk, Nat.le_trans (h.zt i hi).2 hk⟩
  zD := fun j => Nat.le_trans (h.zD j) hk
  zL := fun i j => Nat.le_trans (h.zL i j) hk
  hk := hK
theorem tr_mono {D : List Int} {L : List (List Int)} {ts : List (Int × Int)} {a b : Int} {k K : Nat} (hk : k ≤ K) : (T.Tr D L ts a b k).le (T.Tr D L ts a b K) := st_le ⟨tl_le (fun _ => zi_mono hk) _, tl_le (fun _ => tl_le (fun _ => zi_mono hk) _) _, tl_le (fun q => st_le (l := [T.Zi q.1 k, T.Zi q.2 k]) (l' := [T.Zi q.1 K, T.Zi q.2 K]) ⟨zi_mono hk, zi_mono hk, trivial⟩) _, zi_mono hk, zi_mono hk, trivial⟩

theorem cells_qz3 {k : Nat} {u : World} : ∀ {l : List (Int × Int)} {cs : List Value}, Cells B0 u (l.map (cQi k).X) cs → ∀ q ∈ l, zl q.1 ≤ k ∧ zl q.2 ≤ k
  | [], _, _, q, h => by cases h
  | a :: r, cs, ⟨v, rest, _, ⟨ys, _, v1, r1, _, h1, _, v2, r2, _, h3, _⟩, _, h2⟩, q, h => by
    rcases List.mem_cons.1 h with rfl | h
    · exact ⟨zi_zl h1, zi_zl h3⟩
    · exact cells_qz3 h2 q h
theorem l_qz3 {k : Nat} {β : Env} {u : World} {l : List (Int × Int)} {v : Value} (h : (T.l (cQi k) l).rep β u v) : ∀ q ∈ l, zl q.1 ≤ k ∧ zl q.2 ≤ k := fun q hq => by
  obtain ⟨A, n, c, _, h1, _, _, h4⟩ := h
  have hp : 0 < n := by rw [← h1]; exact List.length_pos_of_mem hq
  obtain ⟨ad, _, xs, h5, _⟩ := h4 hp
  exact cells_qz3 h5 q hq
/-- The sizes of a tree's numbers. -/
structure TrZ (D : List Int) (L : List (List Int)) (ts : List (Int × Int)) (a b : Int) (k : Nat) : Prop where
  zD : ∀ j, zl (D.getD j 0) ≤ k
  zL : ∀ i j, zl ((L.getD j []).getD i 0) ≤ k
  zt : ∀ i, i < ts.length → zl (ts.getD i (0, 0)).1 ≤ k ∧ zl (ts.getD i (0, 0)).2 ≤ k
  za : zl a ≤ k
theorem fn_trz {P : Program} {f : FuncId} {R : T} {As : List T} {D : List Int} {L : List (List Int)} {ts : List (Int × Int)} {a b : Int} {k : Nat} {Ei Eo : List (Nat × Ent)} {N : List Nat} (h : TrZ D L ts a b k → Fn P f (T.Tr D L ts a b k :: As) Ei Eo N R) : Fn P f (T.Tr D L ts a b k :: As) Ei Eo N R := fun vs β u w F hs hr hH => by
  match vs, hr with
  | v0 :: r, ⟨r0, r1⟩ =>
    have r0' := r0
    obtain ⟨cs, _, v1, s1, _, a1, _, v2, s2, _, a2, _, v3, s3, _, a3, _, v4, s4, _, a4, _⟩ := r0'
    exact h ⟨getD_zl (l_zl a1), ll_zl a2, fun i hi => l_qz3 a3 (ts.getD i (0, 0)) (by rw [List.getD_eq_getElem?_getD, List.getElem?_eq_getElem hi]; exact List.getElem_mem hi), zi_zl a4⟩ _ β u w F hs ⟨r0, r1⟩ hH
theorem TrV.trs {D : List Int} {L : List (List Int)} {ts : List (Int × Int)} {a b : Int} {k : Nat} (h : TrV D L ts a b) (z : TrZ D L ts a b k) (hk : k ≤ 16777216) : TrS D L ts L.length k := ⟨h.1, rfl, h.2.1, h.2.2.1, h.2.2.2.1, z.zt, z.zD, z.zL, hk⟩

end Go.Proofs.Ytekghdfbhbhigaa.V
/- A logic of calls: code that holds a label, gone through without a jump to it. -/
set_option linter.unusedVariables false
set_option linter.unusedSimpArgs false
namespace Go.Proofs.Ytekghdfbhbhigaa.V
open Go.RowKit
section
variable {P : Program} {Q : Exit → Act → World → Prop} {c : Ctx} {n : Nat} {g : List (Nat × T)} {E : List (Nat × Option Ent)} {x : Code}
end
end Go.Proofs.Ytekghdfbhbhigaa.V
/- Search trees: the nodes, in their order. -/
set_option linter.unusedVariables false
set_option linter.unusedSimpArgs false
set_option maxRecDepth 100000
namespace Go.Proofs.Ytekghdfbhbhigaa.V
open Go.RowKit Mt Nml
end Go.Proofs.Ytekghdfbhbhigaa.V
/- A search tree cut into jobs: one rule, and it comes to an end. -/
set_option linter.unusedVariables false
set_option maxRecDepth 100000
namespace Go.Proofs.Ytekghdfbhbhigaa.V
open Go.RowKit Mt Nml
theorem fl_congr {s : List Int} {x : Nat → Int} {LL LL' : Nat → List (List Int)} : ∀ {m : Nat}, (∀ j, j < m → LL j = LL' j) → fl s x LL m = fl s x LL' m
  | 0, _ => rfl
  | m + 1, h => by
    show fl s x LL m ++ _ = fl s x LL' m ++ _
    rw [fl_congr (m := m) fun j hj => h j (by omega), h m (by omega)]
theorem Bel.unique {D : List Int} {L : List (List Int)} {ts : List (Int × Int)} {n k : Nat} {R : Rat} {s : List Int} {d : Nat} {ns : List (List Int)} (h : Bel D L ts n k R s d ns) : ∀ {ns' : List (List Int)}, Bel D L ts n k R s d ns' → ns = ns' := by
  induction h with
  | leaf s =>
    intro ns' h'
    cases h' with
    | leaf => rfl
    | node s2 d2 m LL hd => omega
  | node s d m LL hd hz hw hn hB ih =>
    intro ns' h'
    cases h' with
    | leaf => omega
    | node s2 d2 m' LL' hd' hz' hw' hn' hB' =>
      have hm : m = m' := by
        rcases Nat.lt_trichotomy m m' with h | h | h
        · exact absurd (hw' m h) hn
        · exact h
        · exact absurd (hw m' h) hn'
      subst hm
      exact fl_congr fun j hj => ih j hj (hB' j hj)
section
variable (D : List Int) (L : List (List Int)) (ts : List (Int × Int)) (n k : Nat) (R : Rat)
/-- How many nodes there are below a suffix. -/
noncomputable def cN (q : List Int) : Nat := by
  classical
  exact if h : ∃ ns, Bel D L ts n k R q q.length ns then (Classical.choose h).length else 0
/-- The children of a suffix, the first m. -/
def kdL (q : List Int) (m : Nat) : List (List Int) := (List.range m).map fun j => q ++ [nth (cq_ D L ts n q) j]
/-- That many children of a suffix are nodes; none of their numbers is too long. -/
structure Kd (q : List Int) (m : Nat) : Prop where
  zl : ∀ j, j ≤ m → zl (nth (cq_ D L ts n q) j) ≤ k
  w : ∀ j, j < m → ptT D L ts (q ++ [nth (cq_ D L ts n q) j]) (n - 1) (q.length + 1) ≤ R
  n : ¬ ptT D L ts (q ++ [nth (cq_ D L ts n q) m]) (n - 1) (q.length + 1) ≤ R
/-- The rule: the first open job is cut, t times. -/
inductive JB (many : Nat) : Nat → List (List Int) → List (List Int) → Option (List (List Int) × List (List Int)) → Prop
  | full (t : Nat) (d l : List (List Int)) : many ≤ l.length → JB many t d l (some (d, l))
  | shut (t : Nat) (d l : List (List Int)) : l.length < many → (∀ i, i < l.length → ¬ (l.getD i []).length < n) → JB many t d l (some (d, l))
  | long (t : Nat) (d l : List (List Int)) (i m : Nat) : l.length < many → i < l.length → (l.getD i []).length < n → (∀ j, j < i → ¬ (l.getD j []).length < n) → Wi D L ts n R (l.getD i []) → Kd D L ts n k R (l.getD i []) m → d.length ≤ 100000 → 65536 < m → JB many t d l none
  | cut (t : Nat) (d l : List (List Int)) (i m : Nat) (res : Option (List (List Int) × List (List Int))) : l.length < many → i < l.length → (l.getD i []).length < n → (∀ j, j < i → ¬ (l.getD j []).length < n) → Wi D L ts n R (l.getD i []) → Kd D L ts n k R (l.getD i []) m → d.length ≤ 100000 → m ≤ 65536 →
      JB many t (if (l.getD i []).length = 0 then d else d ++ [l.getD i []]) (l.take i ++ l.drop (i + 1) ++ kdL D L ts n (l.getD i []) m) res → JB many (t + 1) d l res
end
section
variable {D : List Int} {L : List (List Int)} {ts : List (Int × Int)} {n k : Nat} {R : Rat}
theorem JB.inv {many t : Nat} {d l : List (List Int)} {res : Option (List (List Int) × List (List Int))} (h : JB D L ts n k R many t d l res) : (many ≤ l.length ∧ res = some (d, l)) ∨ (l.length < many ∧ (∀ i, i < l.length → ¬ (l.getD i []).length < n) ∧ res = some (d, l)) ∨
    (∃ i m, l.length < many ∧ i < l.length ∧ (l.getD i []).length < n ∧ (∀ j, j < i → ¬ (l.getD j []).length < n) ∧ Wi D L ts n R (l.getD i []) ∧ Kd D L ts n k R (l.getD i []) m ∧ d.length ≤ 100000 ∧ 65536 < m ∧ res = none) ∨
    ∃ t' i m, t = t' + 1 ∧ l.length < many ∧ i < l.length ∧ (l.getD i []).length < n ∧ (∀ j, j < i → ¬ (l.getD j []).length < n) ∧ Wi D L ts n R (l.getD i []) ∧ Kd D L ts n k R (l.getD i []) m ∧ d.length ≤ 100000 ∧ m ≤ 65536 ∧
      JB D L ts n k R many t' (if (l.getD i []).length = 0 then d else d ++ [l.getD i []]) (l.take i ++ l.drop (i + 1) ++ kdL D L ts n (l.getD i []) m) res := by
  cases h with
  | full _ _ _ h => exact .inl ⟨h, rfl⟩
  | shut _ _ _ h1 h2 => exact .inr (.inl ⟨h1, h2, rfl⟩)
  | long _ _ _ i m h1 h2 h3 h4 h5 h6 h7 h8 => exact .inr (.inr (.inl ⟨i, m, h1, h2, h3, h4, h5, h6, h7, h8, rfl⟩))
  | cut t' _ _ i m _ h1 h2 h3 h4 h5 h6 h7 h8 h9 => exact .inr (.inr (.inr ⟨t', i, m, rfl, h1, h2, h3, h4, h5, h6, h7, h8, h9⟩))
theorem cN_eq {q : List Int} {ns : List (List Int)} (h : Bel D L ts n k R q q.length ns) : cN D L ts n k R q = ns.length := by
  unfold cN
  have hex : ∃ ns, Bel D L ts n k R q q.length ns := ⟨ns, h⟩
  rw [dif_pos hex, Bel.unique (Classical.choose_spec hex) h]
/-- A job that may be: numbers of its depth's size, within the bound. -/
structure Gd (D : List Int) (L : List (List Int)) (ts : List (Int × Int)) (n k0 : Nat) (R : Rat) (q : List Int) : Prop where
  le : q.length ≤ n
  zl : ∀ j, zl (q.getD j 0) ≤ k0 + q.length * (k0 + 20)
  wi : Wi D L ts n R q
theorem Gd.nil {k0 : Nat} (hR : 0 ≤ R) : Gd D L ts n k0 R [] := ⟨Nat.zero_le _, fun j => by rw [show (([] : List Int)).getD j 0 = 0 from by simp, zl_zero]; exact Nat.zero_le _, hR⟩
theorem Gd.kids {k0 : Nat} (h : TrS D L ts n k0) (hK : k0 + 12 * (k0 + 20) ≤ k) (hR : Rb R k0) {q : List Int} (g : Gd D L ts n k0 R q) (ho : q.length < n) : ∃ m, Kd D L ts n k R q m ∧ ∀ j, j < m → Gd D L ts n k0 R (q ++ [nth (cq_ D L ts n q) j]) := by
  have hn := h.twelve
  obtain ⟨m, h1, h2, h3⟩ := kids_ex h (s := q) (b := k0 + q.length * (k0 + 20)) (by omega) g.zl ho hR
  have e1 : (q.length + 1) * (k0 + 20) = q.length * (k0 + 20) + (k0 + 20) := Nat.succ_mul _ _
  have e2 : (q.length + 1) * (k0 + 20) ≤ 12 * (k0 + 20) := Nat.mul_le_mul_right _ (by omega)
  refine ⟨m, ⟨fun j hj => by have := h1 j hj; show Nml.zl (nth (ctT D L ts q (n - 1) (n - 1 - q.length) q.length) j) ≤ k; omega, h2, h3⟩, fun j hj => ⟨by simp; omega, fun i => ?_, ?_⟩⟩
  · rw [getD_snoc', show (q ++ [nth (cq_ D L ts n q) j]).length = q.length + 1 by simp]
    split
    · have : Nml.zl (nth (cq_ D L ts n q) j) ≤ _ := h1 j (by omega)
      omega
    · have := g.zl i; omega
  · unfold Wi
    rw [show (q ++ [nth (cq_ D L ts n q) j]).length = q.length + 1 by simp]
    exact h2 j hj
/-- The weight of jobs. -/
noncomputable def wt (D : List Int) (L : List (List Int)) (ts : List (Int × Int)) (n k : Nat) (R : Rat) (l : List (List Int)) : Nat := (l.map fun q => 1 + cN D L ts n k R q).sum
theorem wt_append (a b : List (List Int)) : wt D L ts n k R (a ++ b) = wt D L ts n k R a + wt D L ts n k R b := by simp [wt]
theorem wt_cons (q : List Int) (b : List (List Int)) : wt D L ts n k R (q :: b) = 1 + cN D L ts n k R q + wt D L ts n k R b := by simp [wt]
theorem take_drop_at {l : List (List Int)} {i : Nat} (h : i < l.length) : l = l.take i ++ l.getD i [] :: l.drop (i + 1) := by
  rw [List.getD_eq_getElem?_getD, List.getElem?_eq_getElem h, Option.getD_some, List.getElem_cons_drop, List.take_append_drop]
theorem wt_kids {q : List Int} {m : Nat} {ns : List (List Int)} (hB : Bel D L ts n k R q q.length ns) (ho : q.length < n) (hK : Kd D L ts n k R q m) : wt D L ts n k R (kdL D L ts n q m) = cN D L ts n k R q := by
  rw [cN_eq hB]
  generalize hd : q.length = d at hB
  cases hB with
  | leaf => omega
  | node s2 d2 m' LL hd' hz' hw' hn' hB' =>
    subst hd
    have hm : m = m' := by
      rcases Nat.lt_trichotomy m m' with h | h | h
      · exact absurd (hw' m h) hK.n
      · exact h
      · exact absurd (hK.w m' h) hn'
    subst hm
    have key : ∀ j, j ≤ m → wt D L ts n k R (kdL D L ts n q j) = (fl q (nth (ctT D L ts q (n - 1) (n - 1 - q.length) q.length)) LL j).length := by
      intro j
      induction j with
      | zero => exact fun _ => rfl
      | succ j ih =>
        intro hj
        have e : kdL D L ts n q (j + 1) = kdL D L ts n q j ++ [q ++ [nth (cq_ D L ts n q) j]] := by simp [kdL, List.range_succ]
        have hb := hB' j (by omega)
        rw [show q.length + 1 = (q ++ [nth (ctT D L ts q (n - 1) (n - 1 - q.length) q.length) j]).length by simp] at hb
        have hc := cN_eq hb
        rw [e, wt_append, ih (by omega), fl_len, wt_cons, show cN D L ts n k R (q ++ [nth (cq_ D L ts n q) j]) = _ from hc]
        show _ + (1 + _ + 0) = _
        omega
    exact key m (Nat.le_refl _)
/-- The open jobs: the first a of e numbers, the others of one more. -/
def Ff (n e a : Nat) (l : List (List Int)) : Prop := ∃ A B, l.filter (fun q => decide (q.length < n)) = A ++ B ∧ A.length = a ∧ (∀ q ∈ A, q.length = e) ∧ ∀ q ∈ B, q.length = e + 1
theorem filter_first {l : List (List Int)} {i : Nat} (hi : i < l.length) (ho : (l.getD i []).length < n) (hc : ∀ j, j < i → ¬ (l.getD j []).length < n) : l.filter (fun q => decide (q.length < n)) = l.getD i [] :: (l.drop (i + 1)).filter (fun q => decide (q.length < n)) ∧ (l.take i).filter (fun q => decide (q.length < n)) = [] := by
  have h1 : (l.take i).filter (fun q => decide (q.length < n)) = [] := by
    rw [List.filter_eq_nil_iff]
    intro q hq
    obtain ⟨j, hj, rfl⟩ := List.getElem_of_mem hq
    rw [List.length_take] at hj
    have := hc j (by omega)
    rw [List.getD_eq_getElem?_getD, List.getElem?_eq_getElem (by omega), Option.getD_some] at this
    simpa using this
  refine ⟨?_, h1⟩
  conv => lhs; rw [take_drop_at hi]
  rw [List.filter_append, h1, List.nil_append, List.filter_cons, if_pos (by simpa using ho)]
theorem ff_cut {e a : Nat} {l : List (List Int)} {i m : Nat} (hF : Ff n e a l) (hi : i < l.length) (ho : (l.getD i []).length < n) (hc : ∀ j, j < i → ¬ (l.getD j []).length < n) :
    (0 < a ∧ (l.getD i []).length = e ∧ Ff n e (a - 1) (l.take i ++ l.drop (i + 1) ++ kdL D L ts n (l.getD i []) m)) ∨ (a = 0 ∧ ∃ a', a' < l.length ∧ Ff n (e + 1) a' (l.take i ++ l.drop (i + 1) ++ kdL D L ts n (l.getD i []) m)) := by
  obtain ⟨A, B, h1, h2, h3, h4⟩ := hF
  obtain ⟨f1, f2⟩ := filter_first hi ho hc
  rw [f1] at h1
  have hk : ∀ q ∈ (kdL D L ts n (l.getD i []) m).filter (fun q => decide (q.length < n)), q.length = (l.getD i []).length + 1 := fun q hq => by
    have := (List.mem_filter.1 hq).1
    unfold kdL at this
    obtain ⟨j, _, rfl⟩ := List.mem_map.1 this
    simp
  have hf : (l.take i ++ l.drop (i + 1) ++ kdL D L ts n (l.getD i []) m).filter (fun q => decide (q.length < n)) = (l.drop (i + 1)).filter (fun q => decide (q.length < n)) ++ (kdL D L ts n (l.getD i []) m).filter (fun q => decide (q.length < n)) := by
    rw [List.filter_append, List.filter_append, f2, List.nil_append]
  cases A with
  | cons q A =>
    simp only [List.cons_append, List.cons.injEq] at h1
    obtain ⟨rfl, h1⟩ := h1
    have he := h3 _ List.mem_cons_self
    refine .inl ⟨by rw [← h2]; simp, he, A, B ++ (kdL D L ts n (l.getD i []) m).filter (fun q => decide (q.length < n)), by rw [hf, h1, List.append_assoc], by rw [← h2]; simp, fun q hq => h3 q (List.mem_cons_of_mem _ hq), fun q hq => ?_⟩
    rcases List.mem_append.1 hq with h | h
    · exact h4 q h
    · rw [hk q h, he]
  | nil =>
    simp only [List.nil_append] at h1
    have hlen : ((l.drop (i + 1)).filter (fun q => decide (q.length < n))).length ≤ l.length - (i + 1) := by
      have := List.length_filter_le (fun q : List Int => decide (q.length < n)) (l.drop (i + 1))
      rwa [List.length_drop] at this
    refine .inr ⟨by rw [← h2]; rfl, ((l.drop (i + 1)).filter (fun q => decide (q.length < n))).length, by omega, _, (kdL D L ts n (l.getD i []) m).filter (fun q => decide (q.length < n)), hf, rfl, fun q hq => h4 q (by rw [← h1]; exact List.mem_cons_of_mem _ hq), fun q hq => ?_⟩
    rw [hk q hq, h4 (l.getD i []) (by rw [← h1]; exact List.mem_cons_self)]
/-- It comes to an end. -/
theorem JB.ex {k0 many : Nat} (h : TrS D L ts n k0) (hK : k0 + 12 * (k0 + 20) ≤ k) (hR : Rb R k0) (hmany : many ≤ 4096) : ∀ (T : Nat) (d l : List (List Int)) (e a : Nat), wt D L ts n k R l ≤ T → (∀ q ∈ l, Gd D L ts n k0 R q) → Ff n e a l → e ≤ n → d.length + a ≤ 4096 * (e + 1) → ∃ t res, JB D L ts n k R many t d l res
  | T, d, l, e, a, hT, hG, hF, he, hd => by
    classical
    have hn := h.twelve
    by_cases hl : many ≤ l.length
    · exact ⟨0, _, .full _ _ _ hl⟩
    by_cases hs : ∀ i, i < l.length → ¬ (l.getD i []).length < n
    · exact ⟨0, _, .shut _ _ _ (by omega) hs⟩
    obtain ⟨i, hi, ho, hc⟩ := least_not hs
    have ho' : (l.getD i []).length < n := Classical.not_not.1 ho
    have hmem : l.getD i [] ∈ l := by rw [List.getD_eq_getElem?_getD, List.getElem?_eq_getElem hi]; exact List.getElem_mem hi
    have hg := hG _ hmem
    obtain ⟨m, hk, hgk⟩ := hg.kids h hK hR ho'
    have hd2 : d.length ≤ 100000 := by
      have : 4096 * (e + 1) ≤ 4096 * 13 := Nat.mul_le_mul_left _ (by omega)
      omega
    rcases Nat.lt_or_ge 65536 m with hm | hm
    · exact ⟨0, _, .long _ _ _ i m (by omega) hi ho' hc hg.wi hk hd2 hm⟩
    obtain ⟨ns, hB⟩ := Bel.ex h hK hR (n - (l.getD i []).length) (s := l.getD i []) rfl (by omega) hg.zl
    have hw1 : wt D L ts n k R l = wt D L ts n k R (l.take i) + (1 + cN D L ts n k R (l.getD i []) + wt D L ts n k R (l.drop (i + 1))) := by
      conv => lhs; rw [take_drop_at hi]
      rw [wt_append, wt_cons]
    have hw2 : wt D L ts n k R (l.take i ++ l.drop (i + 1) ++ kdL D L ts n (l.getD i []) m) + 1 = wt D L ts n k R l := by
      rw [wt_append, wt_append, wt_kids hB ho' hk, hw1]; omega
    have hdl : (if (l.getD i []).length = 0 then d else d ++ [l.getD i []]).length ≤ d.length + 1 := by
      split
      · omega
      · simp
    have hG2 : ∀ q ∈ l.take i ++ l.drop (i + 1) ++ kdL D L ts n (l.getD i []) m, Gd D L ts n k0 R q := fun q hq => by
      rcases List.mem_append.1 hq with hq | hq
      · rcases List.mem_append.1 hq with hq | hq
        · exact hG q (List.mem_of_mem_take hq)
        · exact hG q (List.mem_of_mem_drop hq)
      · unfold kdL at hq
        obtain ⟨j, hj, rfl⟩ := List.mem_map.1 hq
        exact hgk j (by simpa using hj)
    have hT1 : 0 < T := by omega
    rcases ff_cut (D := D) (L := L) (ts := ts) (m := m) hF hi ho' hc with ⟨ha, hle, hF2⟩ | ⟨ha, a', ha', hF2⟩
    · obtain ⟨t, res, hJ⟩ := JB.ex h hK hR hmany (T - 1) (if (l.getD i []).length = 0 then d else d ++ [l.getD i []]) _ e (a - 1) (by omega) hG2 hF2 he (by omega)
      exact ⟨t + 1, res, .cut _ _ _ i m _ (by omega) hi ho' hc hg.wi hk hd2 hm hJ⟩
    · have he2 : e + 1 ≤ n := by
        obtain ⟨A, B, h1, h2, h3, h4⟩ := hF
        obtain ⟨f1, _⟩ := filter_first hi ho' hc
        rw [f1] at h1
        have hA : A = [] := List.eq_nil_of_length_eq_zero (by omega)
        subst hA
        have := h4 (l.getD i []) (by rw [List.nil_append] at h1; rw [← h1]; exact List.mem_cons_self)
        omega
      obtain ⟨t, res, hJ⟩ := JB.ex h hK hR hmany (T - 1) (if (l.getD i []).length = 0 then d else d ++ [l.getD i []]) _ (e + 1) a' (by omega) hG2 hF2 he2 (by
        have : 4096 * (e + 1 + 1) = 4096 * (e + 1) + 4096 := Nat.mul_succ _ _
        omega)
      exact ⟨t + 1, res, .cut _ _ _ i m _ (by omega) hi ho' hc hg.wi hk hd2 hm hJ⟩
termination_by T => T
/-- From the whole tree. -/
theorem JB.ex0 {k0 many : Nat} (h : TrS D L ts n k0) (hK : k0 + 12 * (k0 + 20) ≤ k) (hR : Rb R k0) (hR0 : 0 ≤ R) (hmany : many ≤ 4096) : ∃ t res, JB D L ts n k R many t [] [[]] res := by
  have hp := h.pos
  refine JB.ex h hK hR hmany _ [] [[]] 0 1 (Nat.le_refl _) (fun q hq => by rw [List.mem_singleton.1 hq]; exact Gd.nil hR0) ⟨[[]], [], ?_, rfl, fun q hq => by rw [List.mem_singleton.1 hq]; rfl, fun q hq => by cases hq⟩ (Nat.zero_le _) (by decide)
  rw [List.filter_cons, if_pos (by simpa using hp)]
  rfl
end
section
variable (D : List Int) (L : List (List Int)) (ts : List (Int × Int)) (n k : Nat) (R : Rat) (many : Nat)
/-- Job i is the first open one; m of its children are nodes. -/
structure Cut (d l : List (List Int)) (i m : Nat) : Prop where
  lt : l.length < many
  hi : i < l.length
  ho : (l.getD i []).length < n
  hc : ∀ j, j < i → ¬ (l.getD j []).length < n
  wi : Wi D L ts n R (l.getD i [])
  kd : Kd D L ts n k R (l.getD i []) m
  dl : d.length ≤ 100000
def Stp (d l d' l' : List (List Int)) : Prop := ∃ i m, Cut D L ts n k R many d l i m ∧ m ≤ 65536 ∧ d' = (if (l.getD i []).length = 0 then d else d ++ [l.getD i []]) ∧ l' = l.take i ++ l.drop (i + 1) ++ kdL D L ts n (l.getD i []) m
def Sto (d l : List (List Int)) (res : Option (List (List Int) × List (List Int))) : Prop := (many ≤ l.length ∧ res = some (d, l)) ∨ (l.length < many ∧ (∀ i, i < l.length → ¬ (l.getD i []).length < n) ∧ res = some (d, l)) ∨ ∃ i m, Cut D L ts n k R many d l i m ∧ 65536 < m ∧ res = none
end
/-- The states that the rule goes through. -/
theorem JB.trace {D : List Int} {L : List (List Int)} {ts : List (Int × Int)} {n k : Nat} {R : Rat} {many t : Nat} {d l : List (List Int)} {res : Option (List (List Int) × List (List Int))} (h : JB D L ts n k R many t d l res) :
    ∃ (T : Nat) (dd ll : Nat → List (List Int)), dd 0 = d ∧ ll 0 = l ∧ (∀ j, j < T → Stp D L ts n k R many (dd j) (ll j) (dd (j + 1)) (ll (j + 1))) ∧ Sto D L ts n k R many (dd T) (ll T) res := by
  induction h with
  | full t d l h => exact ⟨0, fun _ => d, fun _ => l, rfl, rfl, fun j hj => absurd hj (Nat.not_lt_zero _), .inl ⟨h, rfl⟩⟩
  | shut t d l h1 h2 => exact ⟨0, fun _ => d, fun _ => l, rfl, rfl, fun j hj => absurd hj (Nat.not_lt_zero _), .inr (.inl ⟨h1, h2, rfl⟩)⟩
  | long t d l i m h1 h2 h3 h4 h5 h6 h7 h8 => exact ⟨0, fun _ => d, fun _ => l, rfl, rfl, fun j hj => absurd hj (Nat.not_lt_zero _), .inr (.inr ⟨i, m, ⟨h1, h2, h3, h4, h5, h6, h7⟩, h8, rfl⟩)⟩
  | cut t d l i m res h1 h2 h3 h4 h5 h6 h7 h8 h9 ih =>
    obtain ⟨T, dd, ll, k1, k2, k3, k4⟩ := ih
    refine ⟨T + 1, fun j => match j with | 0 => d | j + 1 => dd j, fun j => match j with | 0 => l | j + 1 => ll j, rfl, rfl, fun j hj => ?_, k4⟩
    match j, hj with
    | 0, _ => exact ⟨i, m, ⟨h1, h2, h3, h4, h5, h6, h7⟩, h8, k1, k2⟩
    | j + 1, hj => exact k3 j (by omega)
theorem kdL_succ {D : List Int} {L : List (List Int)} {ts : List (Int × Int)} {n : Nat} {q : List Int} {m : Nat} : kdL D L ts n q m ++ [q ++ [nth (cq_ D L ts n q) m]] = kdL D L ts n q (m + 1) := by simp [kdL, List.range_succ]
theorem kdL_len {D : List Int} {L : List (List Int)} {ts : List (Int × Int)} {n : Nat} {q : List Int} {m : Nat} : (kdL D L ts n q m).length = m := by simp [kdL]
end Go.Proofs.Ytekghdfbhbhigaa.V
/- The law of filters is awake. -/
set_option linter.unusedVariables false
set_option linter.unusedSimpArgs false
set_option maxRecDepth 100000
namespace Go.Proofs.Ytekghdfbhbhigaa.V
open Go.RowKit Mt Nml
theorem z_st {z : Int} {k : Nat} (h : zl z ≤ k) : (T.st [T.c (.bool (decide (z < 0))), T.l cU (dig z.natAbs)]).le (T.Z z k) := fun β u v r => ⟨(), h, r⟩
end Go.Proofs.Ytekghdfbhbhigaa.V
/- A logic of calls: slices without room behind them, and rows that one may append to. -/
set_option linter.unusedVariables false
set_option linter.unusedSimpArgs false
namespace Go.Proofs.Ytekghdfbhbhigaa.V
open Go.RowKit
/-- A slice that stands, without room behind it. -/
def T.lx {α : Type} (c : Cod α) (l : List α) : T := ⟨[], 1, false, fun _ u v => (T.l c l).rep B0 u v ∧ ∃ A, v = .slice A l.length l.length,
  fun ⟨_, A, e⟩ _ => by subst e; exact ⟨⟨rfl, rfl⟩, rfl⟩, fun hs ⟨h1, h2⟩ => ⟨(T.l c l).mono hs h1, h2⟩, fun _ h => h⟩
/-- A row of one's own, or a slice without room. -/
def Ent.ap {α : Type} (c : Cod α) (e : TypeId) (l : List α) : Ent := ⟨[], fun β u w v F => (Ent.row c e l).hold β u w v F ∨ ((∀ k, ¬ F k) ∧ (T.lx c l).rep B0 u v),
  fun hs h => by
    rcases h with h | ⟨h1, h2⟩
    · exact .inl ((Ent.row c e l).mono hs h)
    · exact .inr ⟨h1, (T.lx c l).mono hs h2⟩, fun _ h => h, fun hl h => by
    rcases h with h | ⟨h1, h2⟩
    · exact .inl ((Ent.row c e l).loc hl h)
    · exact .inr ⟨h1, h2⟩⟩
theorem row_ap {α : Type} {c : Cod α} {e : TypeId} {l : List α} : (Ent.row c e l).le (Ent.ap c e l) := fun _ _ _ _ _ h => .inl h
section
variable {α : Type} {c : Cod α} {P : Program} {u w : World} {t e : TypeId} {bytes : Nat}
/-- append to a slice without room. -/
theorem run_append_x (hT : SlT P t e c.sz bytes) {v y : Value} {l ys : List α} {ty : TypeId} (hx : (T.lx c l).rep B0 u v) (hy : (T.l c ys).rep B0 u y) (hs : Sub u w) (hb : (l.length + ys.length) * bytes ≤ 140737488355328) (h0 : 0 < bytes) :
    (ys = [] ∧ (Builtin.append_ #[t, t] ty #[v, y]).run P w = .ok v w) ∨
    ∃ v' w', (Builtin.append_ #[t, t] ty #[v, y]).run P w = .ok v' w' ∧ (∃ xs', w'.ownsRow 0 e c.sz v' (l ++ ys).length xs' ∧ Els c (l ++ ys) u xs') ∧ w.grownBy w' none ∧ v'.ownBlock = some w.heap.size ∧ ∃ A n k, v' = .slice A n k := by
  obtain ⟨ht, inf, z, hi, hz0, hz1, hz2, hzc⟩ := hT.info
  obtain ⟨⟨A0, n0, k0, ev0, q1, q2, q3, q4⟩, A, ev⟩ := hx
  rw [ev] at ev0
  cases ev0
  obtain ⟨B, m, cap, ey, hm, hmk, hcap, hcell⟩ := hy
  subst ey
  rcases Nat.eq_zero_or_pos m with h | h
  · subst h
    have hys : ys = [] := List.eq_nil_of_length_eq_zero hm
    subst hys
    refine .inl ⟨rfl, ?_⟩
    subst ev
    cases A0 <;> cases B <;> simp [Builtin.append_, run_underlying ht, sizeOf, typeInfo, hi, Builtin.lenOf, Builtin.firstCells, storeCells, loadCells, loadCellsFrom]
  · obtain ⟨ad, ea, zs, hEy, hst⟩ := hcell h
    subst ea
    have hmx : l.length + m ≤ maxLen := by
      have := Nat.le_trans (Nat.le_mul_of_pos_right _ h0) hb
      unfold maxLen; omega
    have h63 : l.length + m ≤ 9223372036854775807 := by unfold maxLen at hmx; omega
    have hzl : zs.length = m * inf.size := by rw [hEy.len, hm, hz1]
    have grown : ∀ (old : Nat) (xs : List Value), xs.length = l.length * inf.size → Els c l u xs →
      (∃ xs', (w.drew.alloc (.cells (xs.toArray ++ zs.toArray ++ Builtin.zeroCells z.cells (grownCap w (l.length + m) old e - (l.length + m))) e)).ownsRow 0 e c.sz
        (.slice (some ⟨w.heap.size, 0, none⟩) (l.length + m) (grownCap w (l.length + m) old e)) (l ++ ys).length xs' ∧ Els c (l ++ ys) u xs') ∧
      w.grownBy (w.drew.alloc (.cells (xs.toArray ++ zs.toArray ++ Builtin.zeroCells z.cells (grownCap w (l.length + m) old e - (l.length + m))) e)) none := by
      intro old xs hxl hE
      have hge := grownCap_ge w (l.length + m) old e
      have hcm : grownCap w (l.length + m) old e ≤ maxLen := grownCap_le_maxLen w (l.length + m) old e hmx
      have hlen : (xs ++ zs).length = (l.length + m) * c.sz := by rw [List.length_append, hxl, hzl, hz1, Nat.add_mul]
      rw [List.length_append, hm]
      refine ⟨⟨xs ++ zs, ⟨hlen, .inr ⟨w.heap.size, _, _, rfl, Nat.zero_le _, heap_alloc_new w.drew _, hge, hcm, ?_, ?_⟩⟩, hE.append hEy⟩, ⟨rfl, rfl, rfl, by simp, fun k hk _ => Go.heap_alloc_old w.drew _ hk⟩⟩
      · simp only [Array.size_append, List.size_toArray, size_zeroCells, hzc, hxl, hzl, hz1, ← Nat.add_mul]
        congr 1
        omega
      · simp only [Array.toList_append, List.append_assoc]
        rw [← List.append_assoc, ← hlen]
        exact List.take_left
    refine .inr ?_
    have hnews : ∀ j y, zs[j]? = some y → w.cell? (ad.add j) = some y := fun j y hy => hs _ _ (hst j y hy)
    subst ev
    cases A0 with
    | none =>
      have hl : l = [] := by
        cases l with
        | nil => rfl
        | cons a r => obtain ⟨ad, h, _⟩ := q4 (by simp); cases h
      subst hl
      have hr := run_append_nil (P := P) w t ty e inf z ht hi hz0 ad m cap zs hzl hnews h (by omega) (by rw [hz2]; have hb := hb; simp only [List.length_nil, Nat.zero_add] at hb; rw [hm] at hb; omega)
      have hg := grown 0 [] (by simp) rfl
      simp only [List.length_nil, Nat.zero_add, List.nil_append, Array.empty_append] at hg ⊢
      exact ⟨_, _, hr, hg.1, hg.2, rfl, _, _, _, rfl⟩
    | some b =>
      rcases Nat.eq_zero_or_pos l.length with hl | hl
      · have hl' : l = [] := List.eq_nil_of_length_eq_zero hl
        subst hl'
        have hr := run_append_grow (P := P) w t ty e inf z ht hi hz0 b 0 0 [] (by simp) (fun j v h => by simp at h) ad m cap zs hzl hnews (by omega) (by omega) (growslice_fits (by omega) (by rw [hz2]; rw [hm] at hb; simpa using hb))
        have hg := grown 0 [] (by simp) rfl
        exact ⟨_, _, hr, hg.1, hg.2, rfl, _, _, _, rfl⟩
      · obtain ⟨ad', e1, xs, hE, hst'⟩ := q4 hl
        cases e1
        have hr := run_append_grow (P := P) w t ty e inf z ht hi hz0 b l.length l.length xs (by rw [hE.len, hz1]) (fun j v h => hs _ _ (hst' j v h)) ad m cap zs hzl hnews (by omega) (by omega) (growslice_fits (by omega) (by rw [hz2, ← hm]; exact hb))
        have hg := grown l.length xs (by rw [hE.len, hz1]) hE
        exact ⟨_, _, hr, hg.1, hg.2, rfl, _, _, _, rfl⟩
end
section
variable {P : Program} {ops : Array Oper} {fin : List OpS → List (Nat × T) → List (Nat × Option Ent) → Prop} {r : List Oper} {H : List OpS} {g : List (Nat × T)} {E : List (Nat × Option Ent)} {o : Oper}
variable {t : Option Nat} {ty : TypeId} {ps : String} {af : Array Edge} {gd : Option (Nat × Bool)} {x y : Operand} {X Y : T} {e off m n : Nat} {b : Bool} {et : TypeId}
variable {α : Type} {c : Cod α} {xs ys : List α}
/-- xs[:hi:hi] of a slice that stands. -/
theorem sh3x {hi : Nat} {zh zm : Operand} {b' d' : Int} {kk' kk2 : IntKind} {τ : TypeId} {bytes : Nat} [hl : IsI X c xs] (hX : envl g x = some X) (hT : SlT P et τ c.sz bytes) (hhi : envl g zh = some (T.c (.int kk' b'))) (hmx : envl g zm = some (T.c (.int kk2 d'))) (hh : b' = (hi : Int) ∧ d' = (hi : Int) ∧ hi ≤ xs.length) (hn : J P ops fin r (OpS.p (T.lx c (xs.take hi)) :: H) (putg t (T.lx c (xs.take hi)) g) E) (hg : GuardIs ops g ⟨t, .slice et x none (some zh) (some zm), ty, ps, af, gd⟩ true := by exact gd0) : J P ops fin (⟨t, .slice et x none (some zh) (some zm), ty, ps, af, gd⟩ :: r) H g E :=
  j_val hg (ok_pure fun ρ β u w F hs he hH => by
    obtain ⟨rfl, rfl, h2⟩ := hh
    have hx := (T.l c xs).ext (β' := B0) (fun _ h => by cases h) (hl.le _ _ _ (he x (by simp [Op.operands]) _ hX))
    have hz : ρ zh = _ := he zh (by simp [Op.operands]) _ hhi
    have hz2 : ρ zm = _ := he zm (by simp [Op.operands]) _ hmx
    obtain ⟨A, n, k, ev, e1, e2, e3, e4⟩ := id hx
    obtain ⟨ht, inf, z, hi', hz0, hz1, hz2', hzc⟩ := hT.info
    have a2 : (0 : Int) ≤ hi ∧ (hi : Int) ≤ k := by omega
    have a3 : hi ≤ k := by omega
    rw [ev] at hx
    have := cut_rep (lo := 0) (B := A) hx (Nat.zero_le _) h2 (fun _ => by cases A <;> simp [Addr.add])
    obtain ⟨A', n', k', eq, q1, q2, q3, q4⟩ := this
    simp only [Nat.sub_zero] at eq
    cases eq
    have hlen : (xs.take hi).length = hi := by rw [List.length_take]; omega
    refine ⟨.slice A hi hi, ?_, ⟨A, hi, hi, rfl, q1, Nat.le_refl _, by omega, q4⟩, A, by rw [hlen]⟩
    simp [execOp, ev, hz, hz2, Instr.sliceAt, Instr.slice, run_underlying ht, Instr.sliceBounds, Instr.sliceBound, asIntOf, a2, a3, sizeOf, typeInfo, hi']
    cases A <;> simp [Addr.add]) hn
/-- append to a slice without room: one may append to what comes. -/
theorem apx {τ : TypeId} {bytes : Nat} (e' : Nat) [hl : IsL Y c ys] (hX : envl g x = some (T.lx c xs)) (hY : envl g y = some Y) (hT : SlT P et τ c.sz bytes) (hb : (xs.length + ys.length) * bytes ≤ 140737488355328) (h0 : 0 < bytes)
    (hn : J P ops fin r (⟨[], [], [(e', Ent.ap c τ (xs ++ ys))], [e'], T.o e'⟩ :: H) (putg t (T.o e') g) ((e', some (Ent.ap c τ (xs ++ ys))) :: E)) (hg : GuardIs ops g ⟨t, .call ⟨.builtin .append, #[x, y], #[et, et]⟩, ty, ps, af, gd⟩ true := by exact gd0) : J P ops fin (⟨t, .call ⟨.builtin .append, #[x, y], #[et, et]⟩, ty, ps, af, gd⟩ :: r) H g E :=
  j_new hg (fun ρ β u w F hs he hH => by
    have hx := he x (by simp [Op.operands, Call.operands]) _ hX
    have hy := (T.l c ys).ext (β' := B0) (fun _ h => by cases h) (hl.le _ _ _ (he y (by simp [Op.operands, Call.operands]) _ hY))
    rcases run_append_x (ty := ty) (u := u) (w := w) hT hx hy hs hb h0 with ⟨hys, hr⟩ | ⟨v', w', hr, ho, hgw, hv, hsl⟩
    · subst hys
      unfold Res
      simp only [execOp, resolve, invoke, builtin, Sem.run_bind, Sem.run_pure, Result.andThen_ok, List.map_toArray, List.map_cons, List.map_nil, hr]
      obtain ⟨A, ev⟩ := hx.2
      refine ⟨u, setE β e' (ρ x), fun _ _ => False, fun f hf => setE_ne _ _ (by simpa using hf), Tr.refl hs, hold1 (.inr ⟨fun _ h => h, ?_⟩) (fun k h => h.elim), fun f X k _ h => h.elim, (setE_same _ _ _).symm, A, _, _, ev⟩
      rw [setE_same, List.append_nil]
      exact hx
    · unfold Res
      simp only [execOp, resolve, invoke, builtin, Sem.run_bind, Sem.run_pure, Result.andThen_ok, List.map_toArray, List.map_cons, List.map_nil, hr]
      obtain ⟨u', β', F', k1, k2, k3, k4, k5⟩ := after_newrow (c := c) (l' := xs ++ ys) (β := β) (F := F) (e' := e') hs hgw ho (.inr hv) hsl
      refine ⟨u', β', F', k1, k2, hold1 (.inl (k3.hold e' _ lk1_same)) (fun k hk => k3.dead e' _ k lk1_same hk), fun f X k hX hk => ?_, k5⟩
      rw [lk_cons] at hX
      by_cases hf : e' = f
      · subst hf; exact k4 e' _ k lk1_same hk
      · rw [if_neg hf] at hX; cases hX) hn
/-- append to what one may append to. -/
theorem apa {τ : TypeId} {bytes : Nat} (e' : Nat) {y1 : α} [hl : IsL Y c [y1]] (hX : envl g x = some (T.o e)) (hE : lkE E e = some (Ent.ap c τ xs)) (hY : envl g y = some Y) (hT : SlT P et τ c.sz bytes) (hb : (xs.length + 1) * bytes ≤ 140737488355328) (h0 : 0 < bytes)
    (hn : J P ops fin r (⟨[], [e], [(e', Ent.row c τ (xs ++ [y1]))], [e'], T.o e'⟩ :: H) (putg t (T.o e') g) ((e', some (Ent.row c τ (xs ++ [y1]))) :: (e, none) :: E)) (hne : Nat.beq e' e = false := by rfl) (hg : GuardIs ops g ⟨t, .call ⟨.builtin .append, #[x, y], #[et, et]⟩, ty, ps, af, gd⟩ true := by exact gd0) : J P ops fin (⟨t, .call ⟨.builtin .append, #[x, y], #[et, et]⟩, ty, ps, af, gd⟩ :: r) H g E := by
  have hne' : e' ≠ e := fun h => by subst h; simp at hne
  refine ⟨⟨[], [e], [(e', Ent.row c τ (xs ++ [y1]))], [e'], T.o e'⟩, (e', some (Ent.row c τ (xs ++ [y1]))) :: (e, none) :: E, .inl ⟨hg, fun f he => ⟨Ent.ap c τ xs, by rw [show f = e from by simpa using he]; exact hE⟩, ?_⟩, fun f => ?_, hn⟩
  · have : (fun f => if f ∈ (OpS.mk [] [e] [(e', Ent.row c τ (xs ++ [y1]))] [e'] (T.o e')).uses ++ (OpS.mk [] [e] [(e', Ent.row c τ (xs ++ [y1]))] [e'] (T.o e')).cons then lkE E f else none) = lk [(e, Ent.ap c τ xs)] := funext fun f => by
      rw [lk_cons]
      by_cases h : e = f
      · subst h; rw [if_pos (by simp), if_pos rfl, hE]
      · rw [if_neg (by simp; exact fun h' => h h'.symm), if_neg h]; rfl
    rw [this]
    intro ρ β u w F hs he hH
    obtain ⟨h1, A, n, k, h2⟩ := he x (by simp [Op.operands, Call.operands]) _ hX
    have hy := (T.l c [y1]).ext (β' := B0) (fun _ h => by cases h) (hl.le _ _ _ (he y (by simp [Op.operands, Call.operands]) _ hY))
    rcases hH.hold e _ lk1_same with hrow | ⟨hF, hx⟩
    · have hH2 : Hold β u w F (lk [(e, Ent.row c τ xs)]) := hold1 hrow (fun k hk => hH.dead e _ k lk1_same hk)
      obtain ⟨zs, k1, k2, k3⟩ := hrow
      rw [← h1] at k1
      obtain ⟨v', w', hr, ho, hgw, hv, hsl⟩ := run_append (ty := ty) hT k1 k2 hy hs hb h0
      unfold Res
      simp only [execOp, resolve, invoke, builtin, Sem.run_bind, Sem.run_pure, Result.andThen_ok, List.map_toArray, List.map_cons, List.map_nil, hr]
      exact after_row hH2 hs (by rw [← h1]; exact hgw) ho (by rw [← h1]; exact hv) (β' := setE β e' v') (fun f hf => setE_ne _ _ (by simpa using hf)) (setE_same _ _ _) ⟨(setE_same _ _ _).symm, hsl⟩
    · rw [← h1] at hx
      rcases run_append_x (ty := ty) (u := u) (w := w) hT hx hy hs hb h0 with ⟨hys, _⟩ | ⟨v', w', hr, ho, hgw, hv, hsl⟩
      · cases hys
      · unfold Res
        simp only [execOp, resolve, invoke, builtin, Sem.run_bind, Sem.run_pure, Result.andThen_ok, List.map_toArray, List.map_cons, List.map_nil, hr]
        obtain ⟨u', β', F', k1, k2, k3, k4, k5⟩ := after_newrow (c := c) (l' := xs ++ [y1]) (β := β) (F := F) (e' := e') hs hgw ho (.inr hv) hsl
        refine ⟨u', β', F', k1, k2.weak (fun k hk => by obtain ⟨f, hf, _⟩ := hk; cases hf), k3, fun f X k hX hk => ?_, k5⟩
        rcases k4 f X k hX hk with ⟨f', hf', _⟩ | h
        · cases hf'
        · exact .inr h
  · unfold lkE OpS.upd
    rw [lk_cons, lk_cons, lk_cons]
    by_cases h : e' = f
    · rw [if_pos h, if_pos h]; rfl
    · rw [if_neg h, if_neg h]
      show _ = if [e].contains f then none else _
      by_cases h2 : e = f
      · subst h2; simp
      · rw [if_neg h2, if_neg (by simpa using fun h3 => h2 h3.symm)]
/-- len of what one may append to. -/
theorem lna {τ τ' : TypeId} {sz bytes : Nat} (hT : SlT P et τ' sz bytes) (hX : envl g x = some (T.o e)) (hE : lkE E e = some (Ent.ap c τ xs)) (hn : J P ops fin r (⟨[e], [], [], [], T.c (.int .i64 (xs.length : Int))⟩ :: H) (putg t (T.c (.int .i64 (xs.length : Int))) g) E) (hg : GuardIs ops g ⟨t, .call ⟨.builtin .len, #[x], #[et]⟩, ty, ps, af, gd⟩ true := by exact gd0) : J P ops fin (⟨t, .call ⟨.builtin .len, #[x], #[et]⟩, ty, ps, af, gd⟩ :: r) H g E :=
  j_use hE hg (fun ρ β u w F hs he hH => by
    obtain ⟨h1, A, n, k, h2⟩ := he x (by simp [Op.operands, Call.operands]) _ hX
    have hnn : n = xs.length := by
      rcases hH.hold e _ lk1_same with ⟨zs, k1, k2, k3⟩ | ⟨_, _, A', ev⟩
      · rcases k1.2 with ⟨ev, hn⟩ | ⟨q, cap, cur, ev, _⟩
        · rw [← h1, h2] at ev; cases ev; omega
        · rw [← h1, h2] at ev; cases ev; rfl
      · rw [← h1, h2] at ev; cases ev; rfl
    unfold Res
    rw [run_len hT h2]
    exact after_pure hs (by rw [hnn]; rfl)) hn
end
section
variable {P : Program} {Q : Exit → Act → World → Prop} {n : Nat} {ctx : Ctx} {g : List (Nat × T)} {E : List (Nat × Option Ent)} {x : Code} {α : Type} {c : Cod α} {l : List α} {τ : TypeId}
/-- It is one or the other. -/
theorem tri_ap (e : Nat) (hE : lkE E e = some (Ent.ap c τ l)) (h1 : Tri P x Q ctx n g ((e, some (Ent.row c τ l)) :: E)) (h2 : Tri P x Q ctx n g ((e, some (Ent.frz c l)) :: E)) : Tri P x Q ctx n g E := fun a w hS => by
  obtain ⟨β, u, F, q1, q2, q3, q4, q5, q6, q7⟩ := hS
  have mk : ∀ Y : Ent, Y.hold β u w (β e) (F e) → InSt ctx n g ((e, some Y) :: E) a w := fun Y hY => by
    have old : ∀ f X, lkE ((e, some Y) :: E) f = some X → ∃ Z, lkE E f = some Z ∧ (f = e ∧ X = Y ∨ f ≠ e ∧ X = Z) := fun f X hX => by
      rw [lkE_cons] at hX
      by_cases hf : e = f
      · rw [if_pos hf] at hX; cases hX; exact ⟨_, hf ▸ hE, .inl ⟨hf.symm, rfl⟩⟩
      · rw [if_neg hf] at hX; exact ⟨_, hX, .inr ⟨Ne.symm hf, rfl⟩⟩
    refine ⟨β, u, F, q1, q2, q3, ⟨fun f X hX => ?_, fun f X k hX hk => ?_, fun f f' X X' k hX hX' hne hk => ?_⟩, q5, fun f X k hX hk => ?_, q7⟩
    · obtain ⟨Z, hZ, ⟨rfl, rfl⟩ | ⟨hf, rfl⟩⟩ := old f X hX
      · exact hY
      · exact q4.hold f _ hZ
    · obtain ⟨Z, hZ, _⟩ := old f X hX
      exact q4.dead f Z k hZ hk
    · obtain ⟨Z, hZ, _⟩ := old f X hX
      obtain ⟨Z', hZ', _⟩ := old f' X' hX'
      exact q4.apart f f' Z Z' k hZ hZ' hne hk
    · obtain ⟨Z, hZ, _⟩ := old f X hX
      exact q6 f Z k hZ hk
  rcases q4.hold e _ hE with hr | ⟨hF, hx⟩
  · exact h1 a w (mk _ hr)
  · exact h2 a w (mk _ ⟨hF, hx.1⟩)
theorem tri_fza (e : Nat) (hE : lkE E e = some (Ent.ap c τ l)) (h : Tri P x Q ctx n g ((e, some (Ent.frz c l)) :: E)) : Tri P x Q ctx n g E :=
  tri_ap e hE (tri_fz e (by rw [lkE_cons, if_pos rfl]) (fun a w hS => h a w (hS.congr fun f => by
    rw [lkE_cons, lkE_cons (e := e) (X := some (Ent.frz c l)) (E := (e, _) :: E), lkE_cons]
    by_cases hf : e = f
    · rw [if_pos hf, if_pos hf]
    · rw [if_neg hf, if_neg hf, if_neg hf]))) h
end
theorem lkE_append (A B : List (Nat × Option Ent)) (f : Nat) : lkE (A ++ B) f = if f ∈ A.map (·.1) then lkE A f else lkE B f := by
  induction A with
  | nil => simp
  | cons p r ih =>
    obtain ⟨e, X⟩ := p
    rw [List.cons_append, lkE_cons, lkE_cons, ih]
    by_cases h : e = f
    · subst h; simp
    · rw [if_neg h, if_neg h]
      by_cases h2 : f ∈ r.map (·.1)
      · rw [if_pos h2, if_pos (by simp only [List.map_cons, List.mem_cons]; exact .inr h2)]
      · rw [if_neg h2, if_neg (by simp only [List.map_cons, List.mem_cons, not_or]; exact ⟨fun h3 => h h3.symm, h2⟩)]
/-- What is one's own behind a call that takes Ei and leaves Eo. -/
def aftE (Ei Eo : List (Nat × Ent)) (E : List (Nat × Option Ent)) : List (Nat × Option Ent) := somes Eo ++ ((Names Ei).map (fun e => (e, none)) ++ E)
theorem aftE_upd {Ei Eo : List (Nat × Ent)} {E : List (Nat × Option Ent)} {N : List Nat} {X : T} (f : Nat) : lkE (aftE Ei Eo E) f = OpS.upd ⟨[], Names Ei, Eo, N, X⟩ f (lkE E f) := by
  unfold aftE OpS.upd
  rw [lkE_append, lkE_append, lkE_somes]
  have h1 : (f ∈ (somes Eo).map (·.1)) ↔ f ∈ Names Eo := by simp [somes, Names]
  by_cases h : f ∈ Names Eo
  · rw [if_pos (h1.2 h)]
    cases hk : lk Eo f with
    | some Y => rfl
    | none =>
      exfalso
      have : ∀ l : List (Nat × Ent), f ∈ Names l → lk l f ≠ none := by
        intro l
        induction l with
        | nil => intro h; cases h
        | cons p r ih =>
          obtain ⟨e, Z⟩ := p
          intro hm
          rw [lk_cons]
          by_cases he : e = f
          · rw [if_pos he]; simp
          · rw [if_neg he]
            refine ih ?_
            simp only [Names, List.map_cons, List.mem_cons] at hm
            rcases hm with hm | hm
            · exact absurd hm.symm he
            · exact hm
      exact this Eo h hk
  · rw [if_neg (fun h2 => h (h1.1 h2)), lk_names h]
    show _ = if (Names Ei).contains f then none else lkE E f
    have h2 : ((Names Ei).map (fun e => ((e, none) : Nat × Option Ent))).map (·.1) = Names Ei := by rw [List.map_map]; exact List.map_id' _
    rw [h2]
    by_cases h3 : f ∈ Names Ei
    · rw [if_pos h3, if_pos (by simpa using h3)]
      have : ∀ l : List Nat, lkE (l.map (fun e => ((e, none) : Nat × Option Ent))) f = none := by
        intro l
        induction l with
        | nil => rfl
        | cons e r ih =>
          rw [List.map_cons, lkE_cons]
          split
          · rfl
          · exact ih
      exact this _
    · rw [if_neg h3, if_neg (by simpa using h3)]
section
variable {P : Program} {ops : Array Oper} {fin : List OpS → List (Nat × T) → List (Nat × Option Ent) → Prop} {r : List Oper} {H : List OpS} {g : List (Nat × T)} {E : List (Nat × Option Ent)} {o : Oper}
variable {t : Option Nat} {ty : TypeId} {ps : String} {af : Array Edge} {gd : Option (Nat × Bool)} {x y : Operand} {X Y : T}
theorem hold_sub {β : Env} {u w : World} {F : FP} {Ei : List (Nat × Ent)} {A : Nat → Option Ent} (hH : Hold β u w F A) (h : ∀ e X, lk Ei e = some X → ∃ Y, A e = some Y ∧ Y.le X) : Hold β u w F (lk Ei) :=
  ⟨fun e X hX => let ⟨Y, h1, h2⟩ := h e X hX; h2 _ _ _ _ _ (hH.hold e Y h1), fun e X k hX hk => let ⟨Y, h1, _⟩ := h e X hX; hH.dead e Y k h1 hk, fun e f X X' k hX hX' hne hk => let ⟨Y, h1, _⟩ := h e X hX; let ⟨Y', h1', _⟩ := h f X' hX'; hH.apart e f Y Y' k h1 h1' hne hk⟩
theorem j_ent {Ei Eo : List (Nat × Ent)} {N : List Nat} {R : T} (hE : SubE (somes Ei) E) (hg : GuardIs ops g o true) (h : OpOk P o (envl g) (lk Ei) ⟨[], Names Ei, Eo, N, R⟩) (hn : J P ops fin r (⟨[], Names Ei, Eo, N, R⟩ :: H) (putg o.dst R g) (aftE Ei Eo E)) : J P ops fin (o :: r) H g E := by
  have hsub : ∀ e X, lk Ei e = some X → ∃ Y, lkE E e = some Y ∧ Y.le X := fun e X hX => subE_lk hE (by rw [lkE_somes]; exact hX)
  have hnm : ∀ e ∈ Names Ei, ∃ X, lk Ei e = some X := fun e he => by
    cases hk : lk Ei e with
    | some X => exact ⟨X, rfl⟩
    | none =>
      exfalso
      have : ∀ l : List (Nat × Ent), e ∈ Names l → lk l e ≠ none := by
        intro l
        induction l with
        | nil => intro h; cases h
        | cons p r ih =>
          obtain ⟨f, Z⟩ := p
          intro hm
          rw [lk_cons]
          by_cases he : f = e
          · rw [if_pos he]; simp
          · rw [if_neg he]
            refine ih ?_
            simp only [Names, List.map_cons, List.mem_cons] at hm
            rcases hm with hm | hm
            · exact absurd hm.symm he
            · exact hm
      exact this Ei he hk
  refine ⟨⟨[], Names Ei, Eo, N, R⟩, aftE Ei Eo E, .inl ⟨hg, fun f hf => ?_, ?_⟩, fun f => aftE_upd f, hn⟩
  · obtain ⟨X, hX⟩ := hnm f hf
    obtain ⟨Y, hY, _⟩ := hsub f X hX
    exact ⟨Y, hY⟩
  · intro ρ β u w F hs he hH
    refine h ρ β u w F hs he (hold_sub hH fun e X hX => ?_)
    obtain ⟨Y, hY, hl⟩ := hsub e X hX
    have hm : e ∈ Names Ei := by
      have := lk_mem hX
      simp only [Names, List.mem_map]
      exact ⟨_, this, rfl⟩
    exact ⟨Y, by simp only [List.nil_append]; rw [if_pos hm]; exact hY, hl⟩
/-- A call that takes what is one's own, and leaves other. -/
theorem cae {f : FuncId} {zs : Array Operand} {tys : Array TypeId} {As Bs : List T} {Ei Eo : List (Nat × Ent)} {N : List Nat} (hA : envs g zs.toList = some As)
    (h : Fn P f Bs Ei Eo N X)
    (hl : LeL As Bs := by repeat (first | exact trivial | refine ⟨?_, ?_⟩ | exact T.le.refl _ | exact IsZ.le | exact IsL2.le | exact IsL.le | exact q_le _ _ | exact l_L (by assumption) (by assumption) (by assumption) | assumption))
    (hE : SubE (somes Ei) E) (hn : J P ops fin r (⟨[], Names Ei, Eo, N, X⟩ :: H) (putg t X g) (aftE Ei Eo E)) (hen : Enters P f := by intro a w; kernel_rfl)
    (hg : GuardIs ops g ⟨t, .call ⟨.value (.func f), zs, tys⟩, ty, ps, af, gd⟩ true := by exact gd0) : J P ops fin (⟨t, .call ⟨.value (.func f), zs, tys⟩, ty, ps, af, gd⟩ :: r) H g E :=
  j_ent hE hg (fun ρ β u w F hs he hH => by
    have hf : ρ (.func f) = .func (.func f) #[] #[] := he (.func f) (show Operand.func f ∈ (#[Operand.func f] ++ zs : Array Operand) from by simp) _ rfl
    have hre := envs_reps (β := β) (u := u) (ρ := ρ) hA (fun x hx Y hY => he x (show x ∈ (#[Operand.func f] ++ zs : Array Operand) from Array.mem_append_right _ (by simpa using hx)) Y hY)
    have := h _ β u w F hs (hre.le hl) hH
    unfold Res
    rw [show (execOp ρ ⟨t, .call ⟨.value (.func f), zs, tys⟩, ty, ps, af, gd⟩).run P w = .ok (.enter f (zs.toList.map ρ).toArray) w from by
      simp only [execOp, resolve, hf, Deferred.ofValue, Sem.run_bind, Sem.run_pure, Result.andThen_ok, invoke, hen _ w]
      congr 2
      apply Array.ext'; simp]
    exact this) hn
end
section
variable {P : Program} {x : Code} {Q : Exit → Act → World → Prop} {ctx : Ctx} {n : Nat} {g : List (Nat × T)} {E : List (Nat × Option Ent)}
/-- What is one's own and whose slice lies in a box gets another name. -/
theorem pn_rena {R : Ent} {et : TypeId} {bl bl' : List T} {K : Act → World → Prop} (f e e' : Nat) (hE : lkE E e' = some (R)) (hB : lkE E f = some (Ent.box et bl)) (hr : RenC e e' bl bl') (hf : ((nsOf g ++ nsE E ++ ctx.I).contains e) = false) (hfe : Nat.beq f e' = false) (hR0 : R.ns = []) (h : PN ctx n K g ((f, some (Ent.box et bl')) :: (e, some (R)) :: (e', none) :: E)) : PN ctx n K g E := fun a w hS => h a w (by
  obtain ⟨β, u, F, h1, h2, h3, h4, h5, h6, h7⟩ := hS
  have hfr : e ∉ nsOf g ∧ e ∉ nsE E ∧ e ∉ ctx.I := by
    simp only [List.contains_eq_mem, decide_eq_false_iff_not, List.mem_append, not_or] at hf
    exact ⟨hf.1.1, hf.1.2, hf.2⟩
  have hne : e ≠ e' := fun h => hfr.2.1 (h ▸ (lkE_base hE).1)
  have hfn : f ≠ e := fun h => hfr.2.1 (h ▸ (lkE_base hB).1)
  have hfe' : f ≠ e' := fun h => by subst h; simp at hfe
  have hb : ∀ q, q ≠ e → setE β e (β e') q = β q := fun q hne => setE_ne _ _ hne
  have hlk : ∀ q, lkE ((f, some (Ent.box et bl')) :: (e, some (R)) :: (e', none) :: E) q = if f = q then some (Ent.box et bl') else if e = q then some (R) else if e' = q then none else lkE E q := fun q => by
    unfold lkE
    rw [lk_cons, lk_cons, lk_cons]
    by_cases h0 : f = q
    · rw [if_pos h0, if_pos h0]; rfl
    · rw [if_neg h0, if_neg h0]
      by_cases h : e = q
      · rw [if_pos h, if_pos h]; rfl
      · rw [if_neg h, if_neg h]
        by_cases h2 : e' = q
        · rw [if_pos h2, if_pos h2]; rfl
        · rw [if_neg h2, if_neg h2]
  have key : ∀ q X, lkE ((f, some (Ent.box et bl')) :: (e, some (R)) :: (e', none) :: E) q = some X → (q = f ∧ X = Ent.box et bl') ∨ (q = e ∧ X = R) ∨ (q ≠ e ∧ q ≠ e' ∧ q ≠ f ∧ lkE E q = some X) := fun q X hX => by
    rw [hlk] at hX
    split at hX
    · rename_i h; cases hX; exact .inl ⟨h.symm, rfl⟩
    · split at hX
      · rename_i h; cases hX; exact .inr (.inl ⟨h.symm, rfl⟩)
      · split at hX
        · cases hX
        · rename_i h0 h h2; exact .inr (.inr ⟨Ne.symm h, Ne.symm h2, Ne.symm h0, hX⟩)
  -- the source of a footprint: an old entry
  let src : Nat → Nat := fun q => if q = e then e' else q
  have hsrc : ∀ q X, lkE ((f, some (Ent.box et bl')) :: (e, some (R)) :: (e', none) :: E) q = some X → ∃ Y, lkE E (src q) = some Y := fun q X hX => by
    rcases key q X hX with ⟨rfl, rfl⟩ | ⟨rfl, rfl⟩ | ⟨n1, n2, n3, hX'⟩
    · exact ⟨_, by simp only [src, if_neg hfn]; exact hB⟩
    · exact ⟨_, by simp only [src, if_pos]; exact hE⟩
    · exact ⟨_, by simp only [src, if_neg n1]; exact hX'⟩
  have hinj : ∀ q p X Y, lkE ((f, some (Ent.box et bl')) :: (e, some (R)) :: (e', none) :: E) q = some X → lkE ((f, some (Ent.box et bl')) :: (e, some (R)) :: (e', none) :: E) p = some Y → q ≠ p → src q ≠ src p := fun q p X Y hX hY hn => by
    have nq : q ≠ e' := by
      rcases key q X hX with ⟨rfl, _⟩ | ⟨rfl, _⟩ | ⟨_, n2, _, _⟩
      · exact hfe'
      · exact hne
      · exact n2
    have np : p ≠ e' := by
      rcases key p Y hY with ⟨rfl, _⟩ | ⟨rfl, _⟩ | ⟨_, n2, _, _⟩
      · exact hfe'
      · exact hne
      · exact n2
    simp only [src]
    split <;> split
    · rename_i a1 a2; exact absurd (a1.trans a2.symm) hn
    · exact fun h => np h.symm
    · exact nq
    · exact hn
  refine ⟨setE β e (β e'), u, fun q k => F (src q) k, h1, h2, fun t' X hX => ?_, ⟨fun q X hX => ?_, fun q X k hX hk => ?_, fun q p X Y k hX hY hn hk hk' => ?_⟩, h5, fun q X k hX hk => ?_, fun q hq => (hb q (fun h => hfr.2.2 (h ▸ hq))).trans (h7 q hq)⟩
  · obtain ⟨v, q1, q2⟩ := h3 t' X hX
    exact ⟨v, q1, X.ext (fun q hq => hb q (fun h => hfr.1 (h ▸ lk_base hX q hq))) q2⟩
  · rcases key q X hX with ⟨rfl, rfl⟩ | ⟨rfl, rfl⟩ | ⟨n1, n2, n3, hX'⟩
    · rw [hb _ hfn, show (fun k => F (src q) k) = F q from funext fun k => by simp only [src, if_neg hfn]]
      obtain ⟨b, cs, k1, k2, k3, k4⟩ := h4.hold _ _ hB
      exact ⟨b, cs, k1, k2, k3, hr.cells k4⟩
    · rw [setE_same, show (fun k => F (src q) k) = F e' from funext fun k => by simp only [src, if_pos]]
      exact X.ext (fun q hq => by rw [hR0] at hq; cases hq) (h4.hold e' _ hE)
    · rw [hb q n1, show (fun k => F (src q) k) = F q from funext fun k => by simp only [src, if_neg n1]]
      exact X.ext (fun p hp => hb p (fun h => hfr.2.1 (h ▸ (lkE_base hX').2 p hp))) (h4.hold q X hX')
  · obtain ⟨Y, hY⟩ := hsrc q X hX
    exact h4.dead _ Y k hY hk
  · obtain ⟨X', hX'⟩ := hsrc q X hX
    obtain ⟨Y', hY'⟩ := hsrc p Y hY
    exact h4.apart _ _ X' Y' k hX' hY' (hinj q p X Y hX hY hn) hk hk'
  · obtain ⟨Y, hY⟩ := hsrc q X hX
    exact h6 _ Y k hY hk)
end
end Go.Proofs.Ytekghdfbhbhigaa.V
