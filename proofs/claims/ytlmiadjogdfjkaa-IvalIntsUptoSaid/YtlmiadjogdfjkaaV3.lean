/- A logic of calls: the rules of code and of functions. -/
import Derived.Test.YtlmiadjogdfjkaaV2
set_option linter.unusedVariables false
set_option linter.unusedSimpArgs false
namespace Go.Proofs.Ytlmiadjogdfjkaa.V
open Go.RowKit

def T.le (X Y : T) : Prop := ∀ β u v, X.rep β u v → Y.rep β u v
theorem T.le.refl (X : T) : X.le X := fun _ _ _ h => h
theorem T.le.of {X Y : T} (h : X = Y) : X.le Y := h ▸ T.le.refl X
def Ent.le (X Y : Ent) : Prop := ∀ β u w v F, X.hold β u w v F → Y.hold β u w v F
theorem Ent.le.refl (X : Ent) : X.le X := fun _ _ _ _ _ h => h
theorem Ent.le.of {X Y : Ent} (h : X = Y) : X.le Y := h ▸ Ent.le.refl X
/-- These slots are among those. -/
def SubG : List (Nat × T) → List (Nat × T) → Prop
  | [], _ => True
  | (t, Y) :: r, g => (∃ X, lk g t = some X ∧ X.le Y) ∧ SubG r g
theorem sn {g : List (Nat × T)} : SubG [] g := trivial
theorem sl {g r : List (Nat × T)} (t : Nat) {X : T} (h : lk g t = some X) (k : SubG r g) : SubG ((t, X) :: r) g := ⟨⟨X, h, .refl X⟩, k⟩
theorem sw {g r : List (Nat × T)} (t : Nat) {X Y : T} (h : lk g t = some X) (e : X.le Y) (k : SubG r g) : SubG ((t, Y) :: r) g := ⟨⟨X, h, e⟩, k⟩
theorem subG_lk : ∀ {r g : List (Nat × T)} {t : Nat} {Y : T}, SubG r g → lk r t = some Y → ∃ X, lk g t = some X ∧ X.le Y
  | [], _, _, _, _, h => by cases h
  | (k, Z) :: r, g, t, Y, ⟨h1, h2⟩, h => by
    rw [lk_cons] at h
    split at h
    · rename_i e; subst e; cases h; exact h1
    · exact subG_lk h2 h
def SubE : List (Nat × Option Ent) → List (Nat × Option Ent) → Prop
  | [], _ => True
  | (_, none) :: r, E => SubE r E
  | (e, some Y) :: r, E => (∃ X, lkE E e = some X ∧ X.le Y) ∧ SubE r E
theorem en {E : List (Nat × Option Ent)} : SubE [] E := trivial
theorem el {E r : List (Nat × Option Ent)} (e : Nat) {X : Ent} (h : lkE E e = some X) (k : SubE r E) : SubE ((e, some X) :: r) E := ⟨⟨X, h, .refl X⟩, k⟩
theorem ew {E r : List (Nat × Option Ent)} (e : Nat) {X Y : Ent} (h : lkE E e = some X) (l : X.le Y) (k : SubE r E) : SubE ((e, some Y) :: r) E := ⟨⟨X, h, l⟩, k⟩
theorem subE_lk : ∀ {r E : List (Nat × Option Ent)} {e : Nat} {Y : Ent}, SubE r E → lkE r e = some Y → ∃ X, lkE E e = some X ∧ X.le Y
  | [], _, _, _, _, h => by cases h
  | (k, none) :: r, E, e, Y, hs, h => by
    unfold lkE at h
    rw [lk_cons] at h
    split at h
    · cases h
    · exact subE_lk (r := r) hs h
  | (k, some Z) :: r, E, e, Y, ⟨h1, h2⟩, h => by
    unfold lkE at h
    rw [lk_cons] at h
    split at h
    · rename_i e; subst e; cases h; exact h1
    · exact subE_lk (r := r) h2 h

/-- In the state of these slots and this memory. -/
def PN (c : Ctx) (n : Nat) (Q : Act → World → Prop) (g : List (Nat × T)) (E : List (Nat × Option Ent)) : Prop := ∀ a w, InSt c n g E a w → Q a w
def Tri (P : Program) (x : Code) (Q : Exit → Act → World → Prop) (c : Ctx) (n : Nat) (g : List (Nat × T)) (E : List (Nat × Option Ent)) : Prop := PN c n (fun a w => x.wp P Q a w) g E
section
variable {P : Program} {Q : Exit → Act → World → Prop} {K : Act → World → Prop} {c : Ctx} {n : Nat} {g g' : List (Nat × T)} {E E' : List (Nat × Option Ent)} {x y : Code}
theorem InSt.sub {a : Act} {w : World} (h : InSt c n g E a w) (hg : SubG g' g) (hE : SubE E' E) : InSt c n g' E' a w := by
  obtain ⟨β, u, F, h1, h2, h3, h4, h5, h6, h7⟩ := h
  refine ⟨β, u, F, h1, h2, fun t Y hY => ?_, ⟨fun e Y hY => ?_, fun e Y k hY hk => ?_, fun e f Y Z k hY hZ hne hk => ?_⟩, h5, fun e Y k hY hk => ?_, h7⟩
  · obtain ⟨X, hX, hl⟩ := subG_lk hg hY
    obtain ⟨v, k1, k2⟩ := h3 t X hX
    exact ⟨v, k1, hl _ _ _ k2⟩
  · obtain ⟨X, hX, hl⟩ := subE_lk hE hY
    exact hl _ _ _ _ _ (h4.hold e X hX)
  · obtain ⟨X, hX, hl⟩ := subE_lk hE hY
    exact h4.dead e X k hX hk
  · obtain ⟨X, hX, _⟩ := subE_lk hE hY
    obtain ⟨X', hX', _⟩ := subE_lk hE hZ
    exact h4.apart e f X X' k hX hX' hne hk
  · obtain ⟨X, hX, hl⟩ := subE_lk hE hY
    exact h6 e X k hX hk
theorem PN.sub (hg : SubG g' g) (hE : SubE E' E) (h : PN c n K g' E') : PN c n K g E := fun a w hS => h a w (hS.sub hg hE)
/-- On to what follows. -/
theorem nx (hg : SubG g' g) (hE : SubE E' E) (h : Tri P y Q c n g' E') : PN c n (Exit.then (y.wp P Q) Q .normal) g E := fun a w hS => h a w (hS.sub hg hE)
theorem tri_sub (hg : SubG g' g) (hE : SubE E' E) (h : Tri P y Q c n g' E') : Tri P y Q c n g E := fun a w hS => h a w (hS.sub hg hE)
theorem tri_reg (hm : P.follows .mixedOrders = true) {I : List Nat} (hI : c.I = I) {ops : Array Oper}
    (h : J P ops (fun H g' E' => (slotsOk ops (masks ops.toList []) n && Region.noSelect ops && memOk (masks ops.toList []) (I ++ (nsOf g ++ nsE E)) (zipI H.reverse 0)) = true ∧ PN c n (Q .normal) g' E') ops.toList [] g E) (id : Nat) (draw : Bool) : Tri P (.region id ops draw) Q c n g E := fun a w hS => by
  subst hI
  exact wp_reg hm hS h id draw
theorem tri_seq (h : Tri P x (Exit.then (y.wp P Q) Q) c n g E) : Tri P (.seq x y) Q c n g E := fun a w hS => wp_seq (h a w hS)
/-- Ways that meet again. -/
theorem tri_join {ι : Type} (G : ι → List (Nat × T)) (M : ι → List (Nat × Option Ent)) (inv : ι → Prop) (hx : Tri P x (Exit.then (fun a w => ∃ i, inv i ∧ InSt c n (G i) (M i) a w) Q) c n g E) (hy : ∀ i, inv i → Tri P y Q c n (G i) (M i)) : Tri P (.seq x y) Q c n g E := fun a w hS =>
  wp_seq (wp_mono (hx a w hS) fun e a' w' hq => by
    cases e with
    | normal => obtain ⟨i, hi, hS'⟩ := hq; exact hy i hi a' w' hS'
    | _ => exact hq)
theorem pn_join {ι : Type} {G : ι → List (Nat × T)} {M : ι → List (Nat × Option Ent)} {inv : ι → Prop} (i : ι) (hi : inv i) (hg : SubG (G i) g) (hE : SubE (M i) E) : PN c n (fun a w => ∃ i, inv i ∧ InSt c n (G i) (M i) a w) g E := fun a w hS => ⟨i, hi, hS.sub hg hE⟩
theorem tri_skip (h : PN c n (Q .normal) g E) : Tri P .skip Q c n g E := fun a w hS => wp_skip (h a w hS)
theorem tri_exit {id : Nat} (h : PN c n (Q (.exit id)) g E) : Tri P (.exit id) Q c n g E := fun a w hS => wp_exit (h a w hS)
theorem tri_block {id : Nat} (h : Tri P x (Exit.inBlock id Q) c n g E) : Tri P (.block id x) Q c n g E := fun a w hS => wp_block (h a w hS)
theorem tri_ret (h : PN c n (Q .ret) g E) : Tri P .ret Q c n g E := fun a w hS => wp_ret (h a w hS)
theorem st_bool {a : Act} {w : World} {t : Nat} {b : Bool} (hS : InSt c n g E a w) (h : lk g t = some (T.c (.bool b))) : a.eval (.tmp t) = .bool b := by
  obtain ⟨β, u, F, h1, h2, h3, _⟩ := hS
  obtain ⟨v, k1, k2⟩ := h3 t _ h
  rw [show v = .bool b from k2] at k1
  simp [Act.eval, k1]
theorem tri_true {t : Nat} {b : Bool} (hc : lk g t = some (T.c (.bool b))) (hb : b = true) (h : Tri P x Q c n g E) : Tri P (.cond (.tmp t) x y) Q c n g E := fun a w hS => wp_cond_true (hb ▸ st_bool hS hc) (h a w hS)
theorem tri_false {t : Nat} {b : Bool} (hc : lk g t = some (T.c (.bool b))) (hb : b = false) (h : Tri P y Q c n g E) : Tri P (.cond (.tmp t) x y) Q c n g E := fun a w hS => wp_cond_false (hb ▸ st_bool hS hc) (h a w hS)
theorem tri_cond {t : Nat} {b : Bool} (hc : lk g t = some (T.c (.bool b))) (h1 : b = true → Tri P x Q c n g E) (h2 : b = false → Tri P y Q c n g E) : Tri P (.cond (.tmp t) x y) Q c n g E := by
  cases b
  · exact tri_false hc rfl (h2 rfl)
  · exact tri_true hc rfl (h1 rfl)
/-- The same of a condition that is a proposition. -/
theorem tri_if {t : Nat} {p : Prop} [Decidable p] (hc : lk g t = some (T.c (.bool (decide p)))) (h1 : p → Tri P x Q c n g E) (h2 : ¬ p → Tri P y Q c n g E) : Tri P (.cond (.tmp t) x y) Q c n g E := by
  by_cases hp : p
  · exact tri_true hc (by simpa using hp) (h1 hp)
  · exact tri_false hc (by simpa using hp) (h2 hp)
theorem tri_yes {t : Nat} {p : Prop} [Decidable p] (hc : lk g t = some (T.c (.bool (decide p)))) (hp : p) (h : Tri P x Q c n g E) : Tri P (.cond (.tmp t) x y) Q c n g E := tri_true hc (by simpa using hp) h
theorem tri_no {t : Nat} {p : Prop} [Decidable p] (hc : lk g t = some (T.c (.bool (decide p)))) (hp : ¬ p) (h : Tri P y Q c n g E) : Tri P (.cond (.tmp t) x y) Q c n g E := tri_false hc (by simpa using hp) h
theorem pn_blk {id : Nat} (h : PN c n (Q .normal) g E) : PN c n (Exit.inBlock id Q .normal) g E := h
theorem pn_ex {id : Nat} (h : PN c n (Q .normal) g E) : PN c n (Exit.inBlock id Q (.exit id)) g E := fun a w hS => by
  show Exit.inBlock id Q (.exit id) a w
  simp only [Exit.inBlock, if_true]
  exact h a w hS
theorem pn_oth {id id' : Nat} (hne : id' ≠ id) (h : PN c n (Q (.exit id')) g E) : PN c n (Exit.inBlock id Q (.exit id')) g E := fun a w hS => by
  show Exit.inBlock id Q (.exit id') a w
  simp only [Exit.inBlock]
  rw [if_neg (by simpa using hne)]
  exact h a w hS
theorem pn_then {id : Nat} (h : PN c n (Q (.exit id)) g E) : PN c n (Exit.then K Q (.exit id)) g E := h
theorem pn_thenr (h : PN c n (Q .ret) g E) : PN c n (Exit.then K Q .ret) g E := h
theorem pn_blkr {id : Nat} (h : PN c n (Q .ret) g E) : PN c n (Exit.inBlock id Q .ret) g E := h
theorem least (p : Nat → Prop) (h : ∃ n, p n) : ∃ n, p n ∧ ∀ m, p m → n ≤ m := by
  obtain ⟨n, hn⟩ := h
  induction n using Nat.strongRecOn with
  | _ n ih =>
    by_cases hx : ∃ m, m < n ∧ p m
    · obtain ⟨m, h1, h2⟩ := hx; exact ih m h1 h2
    · exact ⟨n, hn, fun m hm => Nat.le_of_not_lt (fun h => hx ⟨m, h, hm⟩)⟩
/-- A loop: its states are told by what ι holds; μ falls. -/
theorem tri_loop {ι : Type} (G : ι → List (Nat × T)) (M : ι → List (Nat × Option Ent)) (μ : ι → Nat) (inv : ι → Prop) (i : ι) (hi : inv i) (hg : SubG (G i) g) (hE : SubE (M i) E)
    (round : ∀ i, inv i → Tri P x (Exit.then (fun a w => ∃ j, μ j < μ i ∧ inv j ∧ InSt c n (G j) (M j) a w) Q) c n (G i) (M i)) : Tri P (.loop x) Q c n g E := fun a w hS => by
  classical
  let R : Nat → Act → World → Prop := fun m a w => ∃ i, μ i = m ∧ inv i ∧ InSt c n (G i) (M i) a w
  refine wp_loop (fun a w => ∃ m, R m a w) (fun a w => if h : ∃ m, R m a w then Classical.choose (least _ h) else 0) ⟨μ i, i, rfl, hi, hS.sub hg hE⟩ fun a w hI => ?_
  have hl := Classical.choose_spec (least _ hI)
  obtain ⟨i, hμ, hi, hS⟩ := hl.1
  refine wp_mono (round i hi a w hS) fun e a' w' hq => ?_
  cases e with
  | normal =>
    obtain ⟨j, hlt, hj, hA⟩ := hq
    have hI' : ∃ m, R m a' w' := ⟨μ j, j, rfl, hj, hA⟩
    refine ⟨hI', ?_⟩
    rw [dif_pos hI', dif_pos hI]
    exact Nat.lt_of_le_of_lt ((Classical.choose_spec (least _ hI')).2 (μ j) ⟨j, rfl, hj, hA⟩) (hμ ▸ hlt)
  | _ => exact hq
theorem pn_back {ι : Type} {G : ι → List (Nat × T)} {M : ι → List (Nat × Option Ent)} {μ : ι → Nat} {inv : ι → Prop} {m : Nat} (j : ι) (hm : μ j < m) (hj : inv j) (hg : SubG (G j) g) (hE : SubE (M j) E) : PN c n (Exit.then (fun a w => ∃ j, μ j < m ∧ inv j ∧ InSt c n (G j) (M j) a w) Q .normal) g E := fun a w hS => ⟨j, hm, hj, hS.sub hg hE⟩
end

/-! ### functions -/
def Reps (β : Env) (u : World) : List T → List Value → Prop
  | [], [] => True
  | X :: r, v :: s => X.rep β u v ∧ Reps β u r s
  | _, _ => False
/-- A function: of such arguments and such memory it makes such memory and such a value. -/
def Fn (P : Program) (f : FuncId) (As : List T) (Ei Eo : List (Nat × Ent)) (N : List Nat) (R : T) : Prop := ∀ vs β u w F, Sub u w → Reps β u As vs → Hold β u w F (lk Ei) →
  Calls P f vs.toArray w fun e w' => ∃ v, e = .returned v ∧ After β u w F (Names Ei) (lk Eo) N R v w'
theorem Reps.len {β : Env} {u : World} : ∀ {As : List T} {vs : List Value}, Reps β u As vs → vs.length = As.length
  | [], [], _ => rfl
  | X :: r, v :: s, h => by simp [Reps.len h.2]
  | [], _ :: _, h => h.elim
  | _ :: _, [], h => h.elim
theorem Reps.at {β : Env} {u : World} : ∀ {As : List T} {vs : List Value} {i : Nat} {X : T}, Reps β u As vs → As[i]? = some X → ∃ v, vs[i]? = some v ∧ X.rep β u v
  | Y :: r, v :: s, 0, X, h, hX => by simp at hX; subst hX; exact ⟨v, rfl, h.1⟩
  | Y :: r, v :: s, i + 1, X, h, hX => by simpa using Reps.at h.2 (by simpa using hX)
  | [], _, _, _, _, hX => by simp at hX
  | _ :: _, [], _, _, h, _ => h.elim
def LeL : List T → List T → Prop
  | [], [] => True
  | X :: r, Y :: s => X.le Y ∧ LeL r s
  | _, _ => False
theorem Reps.le {β : Env} {u : World} : ∀ {As Bs : List T} {vs : List Value}, Reps β u As vs → LeL As Bs → Reps β u Bs vs
  | [], [], [], _, _ => trivial
  | X :: r, Y :: s, v :: t, h, k => ⟨k.1 _ _ _ h.1, Reps.le h.2 k.2⟩
  | [], [], _ :: _, h, _ => h.elim
  | _ :: _, _, [], h, _ => h.elim
  | [], _ :: _, _, _, k => k.elim
  | _ :: _, [], _, _, k => k.elim
theorem Reps.mono {β : Env} {u u' : World} (hs : Sub u u') : ∀ {As : List T} {vs : List Value}, Reps β u As vs → Reps β u' As vs
  | [], [], h => h
  | X :: r, v :: s, h => ⟨X.mono hs h.1, Reps.mono hs h.2⟩
  | [], _ :: _, h => h.elim
  | _ :: _, [], h => h.elim
theorem Reps.ext {β β' : Env} {u : World} : ∀ {As : List T} {vs : List Value}, (∀ e ∈ As.flatMap (·.ns), β' e = β e) → Reps β u As vs → Reps β' u As vs
  | [], [], _, h => h
  | X :: r, v :: s, hn, h => ⟨X.ext (fun e he => hn e (by simp only [List.flatMap_cons, List.mem_append]; exact .inl he)) h.1, Reps.ext (fun e he => hn e (by simp only [List.flatMap_cons, List.mem_append]; exact .inr he)) h.2⟩
  | [], _ :: _, _, h => h.elim
  | _ :: _, [], _, h => h.elim
def argl : Nat → List T → List (Nat × T)
  | _, [] => []
  | i, X :: r => (i, X) :: argl (i + 1) r
theorem lk_argl : ∀ (l : List T) (i t : Nat) (X : T), lk (argl i l) t = some X → i ≤ t ∧ l[t - i]? = some X
  | [], _, _, _, h => by cases h
  | Y :: r, i, t, X, h => by
    unfold argl at h
    rw [lk_cons] at h
    split at h
    · rename_i e; subst e; exact ⟨Nat.le_refl _, by simpa using h⟩
    · obtain ⟨h1, h2⟩ := lk_argl r (i + 1) t X h
      refine ⟨by omega, ?_⟩
      rw [show t - i = (t - (i + 1)) + 1 by omega]
      simpa using h2
def somes (E : List (Nat × Ent)) : List (Nat × Option Ent) := E.map fun p => (p.1, some p.2)
theorem lkE_somes : ∀ (E : List (Nat × Ent)) (e : Nat), lkE (somes E) e = lk E e
  | [], _ => rfl
  | (k, X) :: r, e => by
    have := lkE_somes r e
    unfold lkE somes at *
    rw [List.map_cons, lk_cons, lk_cons]
    split
    · rfl
    · exact this
def Back (c : Ctx) (Eo : List (Nat × Ent)) (N : List Nat) (R : T) (e : Ending) (w' : World) : Prop := ∃ v, e = .returned v ∧ ∃ u' β' F', (∀ e, e ∉ N → β' e = c.β0 e) ∧ Tr c.own c.u0 c.w0 u' w' ∧ Hold β' u' w' F' (lk Eo) ∧ (∀ e X k, lk Eo e = some X → F' e k → c.own k ∨ c.w0.heap.size ≤ k) ∧ R.rep β' u' v
section
variable {P : Program} {c : Ctx} {n : Nat} {g : List (Nat × T)} {E : List (Nat × Option Ent)} {fn : Func}
def nsEnts (E : List (Nat × Ent)) : List Nat := E.flatMap fun p => p.1 :: p.2.ns
theorem fn_of {f : FuncId} {x : Code} {As : List T} {Ei Eo : List (Nat × Ent)} {N : List Nat} {R : T} (hf : P.funcs[f]? = some fn) (hb : fn.body = some x) (ha : As.length ≤ fn.ntmps)
    (h : ∀ c : Ctx, c.I = nsOf (argl 0 As) ++ nsEnts Ei → Tri P x (bodyPost P fn (Back c Eo N R)) c fn.ntmps (argl 0 As) (somes Ei)) : Fn P f As Ei Eo N R := fun vs β u w F hs hr hH => by
  have hl := hr.len
  refine (calls_of_wp hf hb (h ⟨w, u, Fp F (Names Ei), β, _⟩ rfl _ w ⟨β, u, F, rfl, by simp; omega, fun t X hX => ?_, ?_, Tr.refl hs, fun e X k he hk => .inl ?_, fun _ _ => rfl⟩)).mono fun e w' he => ?_
  · obtain ⟨_, h2⟩ := lk_argl _ _ _ _ hX
    rw [Nat.sub_zero] at h2
    obtain ⟨v, h3, h4⟩ := hr.at h2
    have hlt := (List.getElem?_eq_some_iff.1 h3).1
    exact ⟨v, by simp [Array.getElem?_append, hlt, h3]; simpa [hlt] using h3, h4⟩
  · rw [show lkE (somes Ei) = lk Ei from funext (lkE_somes Ei)]; exact hH
  · rw [lkE_somes] at he
    exact ⟨e, List.mem_map.2 ⟨_, lk_mem he, rfl⟩, hk⟩
  · obtain ⟨v, rfl, u', β', F', h1, h2, h3, h4, h5⟩ := he
    exact ⟨v, rfl, u', β', F', h1, h2, h3, h4, h5⟩
/-- What a result variable says. -/
def RV (P : Program) (g : List (Nat × T)) (E : List (Nat × Option Ent)) (r : ResultVar) (X : T) : Prop := ∀ β u w F (tmps : Array Value), Sub u w → (∀ t Y, lk g t = some Y → ∃ v, tmps[t]? = some v ∧ Y.rep β u v) → Hold β u w F (lkE E) →
  ∃ v, (match r with | .tmp t => (pure (tmps.getD t undef) : Sem Value) | .cell a t => do loadVar t (← asAddr (tmps.getD a undef))).run P w = .ok v w ∧ X.rep β u v
theorem rv_tmp {t : Nat} {X : T} (h : lk g t = some X) : RV P g E (.tmp t) X := fun β u w F tmps hs ht hH => by
  obtain ⟨v, h1, h2⟩ := ht t X h
  exact ⟨v, by simp [h1], h2⟩
def T.tup (l : List T) : T := ⟨l.flatMap (·.ns), 0, false, fun β u v => ∃ vs : List Value, v = .tuple vs.toArray ∧ Reps β u l vs, fun _ h => absurd rfl h, fun hs ⟨vs, e, h⟩ => ⟨vs, e, h.mono hs⟩, fun hn ⟨vs, e, h⟩ => ⟨vs, e, h.ext hn⟩⟩
def retOk (I : List Nat) (Eo : List (Nat × Ent)) (N : List Nat) (R : T) : Bool := (nsEnts Eo ++ R.ns).all fun e => I.contains e || N.contains e
theorem ret_any {Eo : List (Nat × Ent)} {N I : List Nat} {R : T} (hI : c.I = I) (hok : retOk I Eo N R = true) (hE : SubE (somes Eo) E) {X : T} (hX : X.le R)
    (hr : ∀ β u w F (tmps : Array Value), Sub u w → (∀ t Y, lk g t = some Y → ∃ v, tmps[t]? = some v ∧ Y.rep β u v) → Hold β u w F (lkE E) → ∃ v, (results fn tmps).run P w = .ok v w ∧ X.rep β u v) : PN c n (bodyPost P fn (Back c Eo N R) .ret) g E := fun a w hS => by
  obtain ⟨β, u, F, h1, h2, h3, h4, h5, h6, h7⟩ := hS
  obtain ⟨v, k1, k2⟩ := hr β u w F a.tmps h5.sub h3 h4
  unfold retOk at hok
  simp only [List.all_eq_true, Bool.or_eq_true, List.contains_eq_mem, decide_eq_true_eq] at hok
  have hβ : ∀ e ∈ nsEnts Eo ++ R.ns, (if e ∈ N then β e else c.β0 e) = β e := fun e he => by
    rcases hok e he with h | h
    · by_cases hn : e ∈ N
      · rw [if_pos hn]
      · rw [if_neg hn]; exact (h7 e (hI ▸ h)).symm
    · rw [if_pos h]
  have hlk : ∀ e Y, lk Eo e = some Y → ∃ X, lkE E e = some X ∧ X.le Y := fun e Y h => subE_lk hE (by rw [lkE_somes]; exact h)
  have hns : ∀ e Y, lk Eo e = some Y → e ∈ nsEnts Eo ++ R.ns ∧ ∀ q ∈ Y.ns, q ∈ nsEnts Eo ++ R.ns := fun e Y h => by
    have hm := lk_mem h
    unfold nsEnts
    exact ⟨List.mem_append_left _ (List.mem_flatMap.2 ⟨_, hm, List.mem_cons_self⟩), fun q hq => List.mem_append_left _ (List.mem_flatMap.2 ⟨_, hm, List.mem_cons_of_mem _ hq⟩)⟩
  refine bodyPost_ret k1 h1 ⟨v, rfl, u, fun e => if e ∈ N then β e else c.β0 e, F, fun e he => if_neg he, h5, ⟨fun e Y hY => ?_, fun e Y k hY hk => ?_, fun e f Y Z k hY hZ hne hk => ?_⟩, fun e Y k hY hk => ?_, R.ext (fun e he => hβ e (List.mem_append_right _ he)) (hX _ _ _ k2)⟩
  · obtain ⟨X, hX, hl⟩ := hlk e Y hY
    rw [hβ e (hns e Y hY).1]
    exact Y.ext (fun q hq => hβ q ((hns e Y hY).2 q hq)) (hl _ _ _ _ _ (h4.hold e X hX))
  · obtain ⟨X, hX, _⟩ := hlk e Y hY
    exact h4.dead e X k hX hk
  · obtain ⟨X, hX, _⟩ := hlk e Y hY
    obtain ⟨X', hX', _⟩ := hlk f Z hZ
    exact h4.apart e f X X' k hX hX' hne hk
  · obtain ⟨X, hX, _⟩ := hlk e Y hY
    exact h6 e X k hX hk
variable {Eo : List (Nat × Ent)} {N I : List Nat} {R X Y Z : T} {r s q : ResultVar}
theorem ret1 (hI : c.I = I) (hr : fn.results = #[r]) (h : RV P g E r X) (hX : X.le R) (hE : SubE (somes Eo) E) (hok : retOk I Eo N R = true := by kernel_rfl) : PN c n (bodyPost P fn (Back c Eo N R) .ret) g E :=
  ret_any hI hok hE hX fun β u w F tmps hs ht hH => by
    obtain ⟨v, h1, h2⟩ := h β u w F tmps hs ht hH
    refine ⟨v, ?_, h2⟩
    have key : ∀ G : ResultVar → Sem Value, (G r).run P w = .ok v w → ((do let vs ← #[r].mapM G; pure (if h : vs.size = 1 then vs[0] else .tuple vs) : Sem Value)).run P w = .ok v w := fun G h1 => by simp [h1]
    unfold results
    rw [hr]
    exact key (fun r => match r with | .tmp t => (pure (tmps.getD t undef) : Sem Value) | .cell a t => do loadVar t (← asAddr (tmps.getD a undef))) h1
theorem ret2 (hI : c.I = I) (hr : fn.results = #[r, s]) (h : RV P g E r X) (k : RV P g E s Y) (hX : (T.tup [X, Y]).le R) (hE : SubE (somes Eo) E) (hok : retOk I Eo N R = true := by kernel_rfl) : PN c n (bodyPost P fn (Back c Eo N R) .ret) g E :=
  ret_any hI hok hE hX fun β u w F tmps hs ht hH => by
    obtain ⟨v, h1, h2⟩ := h β u w F tmps hs ht hH
    obtain ⟨x, k1, k2⟩ := k β u w F tmps hs ht hH
    refine ⟨.tuple #[v, x], ?_, [v, x], rfl, h2, k2, trivial⟩
    have key : ∀ G : ResultVar → Sem Value, (G r).run P w = .ok v w → (G s).run P w = .ok x w → ((do let vs ← #[r, s].mapM G; pure (if h : vs.size = 1 then vs[0] else .tuple vs) : Sem Value)).run P w = .ok (.tuple #[v, x]) w := fun G h1 h2 => by simp [h1, h2]
    unfold results
    rw [hr]
    exact key (fun r => match r with | .tmp t => (pure (tmps.getD t undef) : Sem Value) | .cell a t => do loadVar t (← asAddr (tmps.getD a undef))) h1 k1
theorem ret3 (hI : c.I = I) (hr : fn.results = #[r, s, q]) (h : RV P g E r X) (k : RV P g E s Y) (l : RV P g E q Z) (hX : (T.tup [X, Y, Z]).le R) (hE : SubE (somes Eo) E) (hok : retOk I Eo N R = true := by kernel_rfl) : PN c n (bodyPost P fn (Back c Eo N R) .ret) g E :=
  ret_any hI hok hE hX fun β u w F tmps hs ht hH => by
    obtain ⟨v, h1, h2⟩ := h β u w F tmps hs ht hH
    obtain ⟨x, k1, k2⟩ := k β u w F tmps hs ht hH
    obtain ⟨y, l1, l2⟩ := l β u w F tmps hs ht hH
    refine ⟨.tuple #[v, x, y], ?_, [v, x, y], rfl, h2, k2, l2, trivial⟩
    have key : ∀ G : ResultVar → Sem Value, (G r).run P w = .ok v w → (G s).run P w = .ok x w → (G q).run P w = .ok y w → ((do let vs ← #[r, s, q].mapM G; pure (if h : vs.size = 1 then vs[0] else .tuple vs) : Sem Value)).run P w = .ok (.tuple #[v, x, y]) w := fun G h1 h2 h3 => by simp [h1, h2, h3]
    unfold results
    rw [hr]
    exact key (fun r => match r with | .tmp t => (pure (tmps.getD t undef) : Sem Value) | .cell a t => do loadVar t (← asAddr (tmps.getD a undef))) h1 k1 l1
end

/-! ### steps -/
section
variable {P : Program} {ops : Array Oper} {fin : List OpS → List (Nat × T) → List (Nat × Option Ent) → Prop} {r : List Oper} {H : List OpS} {g : List (Nat × T)} {E : List (Nat × Option Ent)} {o : Oper}
def OpS.p (X : T) : OpS := ⟨[], [], [], [], X⟩
theorem gd0 (h : o.guard = none := by rfl) : GuardIs ops g o true := .inl ⟨h, rfl⟩
theorem gd1 {q : Nat} {b : Bool} {t : Nat} (h : o.guard = some (q, b) := by rfl) (h2 : (ops[q]?).bind (·.dst) = some t := by rfl) (h3 : lk g t = some (T.c (.bool b)) := by rfl) : GuardIs ops g o true := .inr (.inl ⟨q, b, t, b, h, h2, h3, by simp⟩)
/-- A value, without a look at one's own memory. -/
theorem j_val {X : T} (hg : GuardIs ops g o true) (h : OpOk P o (envl g) (fun _ => none) (OpS.p X)) (hn : J P ops fin r (OpS.p X :: H) (putg o.dst X g) E) : J P ops fin (o :: r) H g E :=
  ⟨OpS.p X, E, .inl ⟨hg, fun e he => absurd he List.not_mem_nil, by
    have : (fun e => if e ∈ (OpS.p X).uses ++ (OpS.p X).cons then lkE E e else none) = fun _ => none := funext fun e => if_neg List.not_mem_nil
    rw [this]; exact h⟩, fun f => rfl, hn⟩
/-- An operation that is left out. -/
theorem j_off {q : Nat} {b e : Bool} {t : Nat} (h : o.guard = some (q, b)) (h2 : (ops[q]?).bind (·.dst) = some t) (h3 : lk g t = some (T.c (.bool e))) (hne : (e == b) = false) (hn : J P ops fin r (OpS.idle :: H) (putg o.dst (T.c undef) g) E) : J P ops fin (o :: r) H g E :=
  ⟨OpS.idle, E, .inr ⟨.inr (.inl ⟨q, b, t, e, h, h2, h3, hne.symm⟩), rfl⟩, fun f => rfl, hn⟩
/-- An operation that is left out since what it hangs on was left out. -/
theorem j_ofu {q : Nat} {b : Bool} {t : Nat} (h : o.guard = some (q, b)) (h2 : (ops[q]?).bind (·.dst) = some t) (h3 : lk g t = some (T.c undef)) (hn : J P ops fin r (OpS.idle :: H) (putg o.dst (T.c undef) g) E) : J P ops fin (o :: r) H g E :=
  ⟨OpS.idle, E, .inr ⟨.inr (.inr ⟨rfl, q, b, t, h, h2, h3⟩), rfl⟩, fun f => rfl, hn⟩
theorem after_pure {β : Env} {u w : World} {F : FP} {X : T} {v : Value} (hs : Sub u w) (h : X.rep β u v) : After β u w F [] (lk []) [] X v w :=
  ⟨u, β, F, fun _ _ => rfl, Tr.refl hs, Hold.none _ _ _ _, (fun e X k h => by cases h), h⟩
/-- A value that hangs on the operands alone. -/
theorem ok_pure {X : T} {A : Nat → Option Ent} {env : Operand → Option T} (h : ∀ ρ β u w F, Sub u w → (∀ x ∈ o.op.operands, ∀ Y, env x = some Y → Y.rep β u (ρ x)) → Hold β u w F A → ∃ v, (execOp ρ o).run P w = .ok (.value v) w ∧ X.rep β u v) : OpOk P o env A (OpS.p X) := fun ρ β u w F hs he hH => by
  obtain ⟨v, h1, h2⟩ := h ρ β u w F hs he hH
  unfold Res
  rw [h1]
  exact after_pure hs h2
end
end Go.Proofs.Ytlmiadjogdfjkaa.V
