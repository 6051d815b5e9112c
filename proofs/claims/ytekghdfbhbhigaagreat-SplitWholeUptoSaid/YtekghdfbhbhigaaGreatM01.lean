/- A logic of calls: what values say and what memory is one's own; a region whose order is open is gone through in the order of its text. -/
import Derived.OrdersHeld
import Derived.Laws.CopyRow
import Derived.Laws.Rows
import Derived.Below
import Derived.KernelRfl
import Derived.Maps.AppendAt
import Derived.Tactics
import Derived.OrdersIn
import Derived.RangeFuncCalls
import Derived.IntWalk
import Derived.Laws.MakeOwn
import Derived.Deep.Upon
set_option linter.unusedVariables false
set_option linter.unusedSimpArgs false
namespace Go.Proofs.YtekghdfbhbhigaaGreat.V
open Go.RowKit

/-- What u holds w holds. -/
def Sub (u w : World) : Prop := ∀ a v, u.cell? a = some v → w.cell? a = some v
theorem Sub.refl (u : World) : Sub u u := fun _ _ h => h
theorem Sub.trans {a b c : World} (h : Sub a b) (k : Sub b c) : Sub a c := fun p v hp => k p v (h p v hp)
def Dead (u : World) (p : Nat) : Prop := ∀ a : Addr, a.block = p → u.cell? a = none
/-- Names of what is owned, and where each begins. -/
abbrev Env := Nat → Value
abbrev FP := Nat → Nat → Prop
def Flat (v : Value) (m : Nat) : Prop := v.cells.toList.length = m ∧ v.cells.toList.all Value.oneCell' = true
/-- Cells as a value of a type. -/
def asVal (b : Bool) (vs : List Value) : Value := if b then .agg vs.toArray else vs.headD undef
/-- What a value says: the names that it mentions; its cells (nought: none are told), is it a struct?; it stays so while more is known. -/
structure T where
  ns : List Nat
  sz : Nat
  ag : Bool
  rep : Env → World → Value → Prop
  shp : ∀ {β u v}, rep β u v → sz ≠ 0 → Flat v sz ∧ v = asVal ag v.cells.toList
  mono : ∀ {β u u' v}, Sub u u' → rep β u v → rep β u' v
  ext : ∀ {β β' u v}, (∀ e ∈ ns, β' e = β e) → rep β u v → rep β' u v
/-- What one's own memory says: it hangs on its own blocks alone. -/
structure Ent where
  ns : List Nat
  hold : Env → World → World → Value → (Nat → Prop) → Prop
  mono : ∀ {β u u' w v F}, Sub u u' → hold β u w v F → hold β u' w v F
  ext : ∀ {β β' u w v F}, (∀ e ∈ ns, β' e = β e) → hold β u w v F → hold β' u w v F
  loc : ∀ {β u w w' v F}, (∀ k, F k → w'.heap[k]? = w.heap[k]?) → hold β u w v F → hold β u w' v F
def lk {α : Type} : List (Nat × α) → Nat → Option α
  | [], _ => none
  | (k, v) :: r, t => bif Nat.beq k t then some v else lk r t
theorem lk_cons {α : Type} (k : Nat) (v : α) (r : List (Nat × α)) (t : Nat) : lk ((k, v) :: r) t = if k = t then some v else lk r t := by
  show (bif Nat.beq k t then some v else lk r t) = _
  by_cases h : k = t
  · subst h; simp
  · have : Nat.beq k t = false := by cases hb : Nat.beq k t with | false => rfl | true => exact absurd (Nat.eq_of_beq_eq_true hb) h
    rw [this, if_neg h]; rfl
theorem lk_mem {α : Type} : ∀ {l : List (Nat × α)} {t : Nat} {v : α}, lk l t = some v → (t, v) ∈ l
  | [], _, _, h => by cases h
  | (k, x) :: r, t, v, h => by
    rw [lk_cons] at h
    split at h
    · rename_i e; subst e; cases h; exact List.mem_cons_self
    · exact List.mem_cons_of_mem _ (lk_mem h)

structure Hold (β : Env) (u w : World) (F : FP) (A : Nat → Option Ent) : Prop where
  hold : ∀ e X, A e = some X → X.hold β u w (β e) (F e)
  dead : ∀ e X k, A e = some X → F e k → Dead u k ∧ k < w.heap.size
  apart : ∀ e f X Y k, A e = some X → A f = some Y → e ≠ f → F e k → ¬ F f k
/-- One step: what was there stays, but for blocks that were given up. -/
structure Tr (C : Nat → Prop) (u w u' w' : World) : Prop where
  os : w'.os = w.os
  tape : w'.tape = w.tape
  output : w'.output = w.output
  size : w.heap.size ≤ w'.heap.size
  block : ∀ k, k < w.heap.size → ¬ C k → w'.heap[k]? = w.heap[k]?
  old : Sub u u'
  sub : Sub u' w'
  dead : ∀ k, k < w.heap.size → ¬ C k → Dead u k → Dead u' k
theorem Tr.refl {C : Nat → Prop} {u w : World} (h : Sub u w) : Tr C u w u w := ⟨rfl, rfl, rfl, Nat.le_refl _, fun _ _ _ => rfl, Sub.refl _, h, fun _ _ _ h => h⟩
theorem Tr.trans {C D : Nat → Prop} {u w u' w' u2 w2 : World} (h : Tr C u w u' w') (k : Tr D u' w' u2 w2) (hD : ∀ b, D b → C b ∨ w.heap.size ≤ b) : Tr C u w u2 w2 :=
  ⟨k.os.trans h.os, k.tape.trans h.tape, k.output.trans h.output, Nat.le_trans h.size k.size,
   fun b hb hc => (k.block b (Nat.lt_of_lt_of_le hb h.size) (fun hd => by rcases hD b hd with h1 | h1; exact hc h1; omega)).trans (h.block b hb hc),
   h.old.trans k.old, k.sub, fun b hb hc hd => k.dead b (Nat.lt_of_lt_of_le hb h.size) (fun hd' => by rcases hD b hd' with h1 | h1; exact hc h1; omega) (h.dead b hb hc hd)⟩
def Fp (F : FP) (C : List Nat) (k : Nat) : Prop := ∃ e ∈ C, F e k
/-- What is so behind a step that gives up C and leaves O, new names N, a value R. -/
def After (β : Env) (u w : World) (F : FP) (C : List Nat) (O : Nat → Option Ent) (N : List Nat) (R : T) (v : Value) (w' : World) : Prop :=
  ∃ u' β' F', (∀ e, e ∉ N → β' e = β e) ∧ Tr (Fp F C) u w u' w' ∧ Hold β' u' w' F' O ∧ (∀ e X k, O e = some X → F' e k → Fp F C k ∨ w.heap.size ≤ k) ∧ R.rep β' u' v
/-- The rest of one's own stays. -/
theorem frame {β β' : Env} {u w u' w' : World} {F F' : FP} {A O : Nat → Option Ent} {C N : List Nat} (hH : Hold β u w F A) (hN : ∀ f Y, A f = some Y → f ∉ C → O f = none → f ∉ N ∧ ∀ e ∈ Y.ns, e ∉ N)
    (hb : ∀ e, e ∉ N → β' e = β e) (ht : Tr (Fp F C) u w u' w') (hO : Hold β' u' w' F' O) (hF : ∀ e X k, O e = some X → F' e k → Fp F C k ∨ w.heap.size ≤ k) (hC : ∀ e ∈ C, ∃ X, A e = some X) :
    Hold β' u' w' (fun e => if (O e).isSome then F' e else F e) (fun e => match O e with | some X => some X | none => if e ∈ C then none else A e) := by
  have old : ∀ e X, (match O e with | some X => some X | none => if e ∈ C then none else A e) = some X → O e = some X ∨ (O e = none ∧ e ∉ C ∧ A e = some X) := fun e X h => by
    cases ho : O e with
    | some Y => rw [ho] at h; exact .inl h
    | none =>
      rw [ho] at h
      simp only at h
      split at h
      · cases h
      · rename_i hc; exact .inr ⟨rfl, hc, h⟩
  have nc : ∀ e X k, e ∉ C → A e = some X → F e k → ¬ Fp F C k := fun e X k hc ha hk hf => by
    obtain ⟨c, hc1, hc2⟩ := hf
    obtain ⟨Y, hY⟩ := hC c hc1
    exact hH.apart e c X Y k ha hY (fun e1 => hc (e1 ▸ hc1)) hk hc2
  refine ⟨fun e X h => ?_, fun e X k h hk => ?_, fun e f X Y k h h' hne hk => ?_⟩
  · rcases old e X h with ho | ⟨ho, hc, ha⟩
    · simp only [ho, Option.isSome_some, if_true]; exact hO.hold e X ho
    · simp only [ho, Option.isSome_none, Bool.false_eq_true, if_false]
      obtain ⟨h1, h2⟩ := hN e X ha hc ho
      rw [hb e h1]
      refine X.mono ht.old (X.ext (fun n hn => hb n (h2 n hn)) (X.loc (fun k hk => ht.block k (hH.dead e X k ha hk).2 (nc e X k hc ha hk)) (hH.hold e X ha)))
  · rcases old e X h with ho | ⟨ho, hc, ha⟩
    · simp only [ho, Option.isSome_some, if_true] at hk; exact hO.dead e X k ho hk
    · simp only [ho, Option.isSome_none, Bool.false_eq_true, if_false] at hk
      obtain ⟨h1, h2⟩ := hH.dead e X k ha hk
      exact ⟨ht.dead k h2 (nc e X k hc ha hk) h1, Nat.lt_of_lt_of_le h2 ht.size⟩
  · rcases old e X h with ho | ⟨ho, hc, ha⟩ <;> rcases old f Y h' with ho' | ⟨ho', hc', ha'⟩ <;> simp only [ho, ho', Option.isSome_some, Option.isSome_none, Bool.false_eq_true, if_true, if_false] at hk ⊢
    · exact hO.apart e f X Y k ho ho' hne hk
    · intro hk'
      rcases hF e X k ho hk with h1 | h1
      · exact nc f Y k hc' ha' hk' h1
      · have := (hH.dead f Y k ha' hk').2; omega
    · intro hk'
      rcases hF f Y k ho' hk' with h1 | h1
      · exact nc e X k hc ha hk h1
      · have := (hH.dead e X k ha hk).2; omega
    · exact hH.apart e f X Y k ha ha' hne hk

/-! ### what operations do -/
/-- What an operation uses, gives up, leaves, names anew, and says. -/
structure OpS where
  uses : List Nat
  cons : List Nat
  prod : List (Nat × Ent)
  news : List Nat
  out : T
def Names {α : Type} (l : List (Nat × α)) : List Nat := l.map (·.1)
namespace OpS
variable (k : OpS)
def touch : List Nat := k.cons ++ Names k.prod
def acc : List Nat := k.uses ++ k.touch
def ns : List Nat := k.out.ns ++ k.prod.flatMap (·.2.ns)
def upd (e : Nat) (c : Option Ent) : Option Ent := match lk k.prod e with | some X => some X | none => if k.cons.contains e then none else c
end OpS
theorem lk_names {α : Type} : ∀ {l : List (Nat × α)} {t : Nat}, t ∉ Names l → lk l t = none
  | [], _, _ => rfl
  | (k, x) :: r, t, h => by
    rw [lk_cons, if_neg (fun e => h (by subst e; simp [Names]))]
    exact lk_names (fun hr => h (by simp only [Names, List.map_cons]; exact List.mem_cons_of_mem _ hr))
theorem upd_un {k : OpS} {e : Nat} (h : e ∉ k.touch) (c : Option Ent) : k.upd e c = c := by
  unfold OpS.touch at h
  rw [List.mem_append] at h
  unfold OpS.upd
  rw [lk_names (fun h' => h (.inr h'))]
  simp only
  rw [if_neg]
  simpa using fun h' => h (.inl h')

/-- One's own, where those of d have come up. -/
def al (d : Nat → Bool) (e : Nat) : List OpS → Nat → Option Ent → Option Ent
  | [], _, c => c
  | k :: r, i, c => al d e r (i + 1) (if d i then k.upd e c else c)
/-- Who wrote a slot last. -/
def wr (d : Nat → Bool) (t : Nat) : List Oper → Nat → Option Nat → Option Nat
  | [], _, c => c
  | o :: r, i, c => wr d t r (i + 1) (if d i && o.dst == some t then some i else c)
def add (d : Nat → Bool) (i : Nat) : Nat → Bool := fun k => k == i || d k
theorem add_same (d : Nat → Bool) (i : Nat) : add d i i = true := by simp [add]
theorem add_ne (d : Nat → Bool) {i k : Nat} (h : k ≠ i) : add d i k = d k := by simp [add, h]
theorem al_congr {e : Nat} {d d' : Nat → Bool} : ∀ (l : List OpS) (s : Nat) (c : Option Ent), (∀ j k, l[j]? = some k → e ∈ k.touch → d (s + j) = d' (s + j)) → al d e l s c = al d' e l s c
  | [], _, _, _ => rfl
  | k :: r, s, c, h => by
    unfold al
    have e1 : (if d s then k.upd e c else c) = (if d' s then k.upd e c else c) := by
      by_cases ht : e ∈ k.touch
      · rw [show d s = d' s from by have := h 0 k (by simp) ht; simpa using this]
      · rw [upd_un ht]; simp
    rw [e1]
    exact al_congr r (s + 1) _ (fun j k' hj ht => by have := h (j + 1) k' (by simpa using hj) ht; rwa [show s + (j + 1) = s + 1 + j by omega] at this)
theorem al_id {e : Nat} {d : Nat → Bool} : ∀ (l : List OpS) (s : Nat) (c : Option Ent), (∀ j k, l[j]? = some k → e ∈ k.touch → d (s + j) = false) → al d e l s c = c
  | [], _, _, _ => rfl
  | k :: r, s, c, h => by
    unfold al
    have e1 : (if d s then k.upd e c else c) = c := by
      by_cases ht : e ∈ k.touch
      · rw [show d s = false from by have := h 0 k (by simp) ht; simpa using this]; rfl
      · rw [upd_un ht]; simp
    rw [e1]
    exact al_id r (s + 1) _ (fun j k' hj ht => by have := h (j + 1) k' (by simpa using hj) ht; rwa [show s + (j + 1) = s + 1 + j by omega] at this)
theorem al_add {e i : Nat} {d : Nat → Bool} {k0 : OpS} (hd : d i = false) : ∀ (l : List OpS) (s : Nat) (c : Option Ent), s ≤ i → l[i - s]? = some k0 → (∀ j k, l[j]? = some k → e ∈ k.touch → i < s + j → d (s + j) = false) → al (add d i) e l s c = k0.upd e (al d e l s c)
  | [], _, _, _, h, _ => by simp at h
  | k :: r, s, c, hs, hk, h => by
    unfold al
    by_cases hi : s = i
    · subst hi
      rw [Nat.sub_self] at hk
      have : k = k0 := by simpa using hk
      subst this
      rw [add_same, if_pos rfl, if_neg (by simp [hd])]
      have h' : ∀ j k', r[j]? = some k' → e ∈ k'.touch → d (s + 1 + j) = false := fun j k' hj ht => by
        have := h (j + 1) k' (by simpa using hj) ht (by omega)
        rwa [show s + (j + 1) = s + 1 + j by omega] at this
      rw [al_id r (s + 1) c h', al_id r (s + 1) (k.upd e c) (fun j k' hj ht => by rw [add_ne d (by omega)]; exact h' j k' hj ht)]
    · rw [add_ne d hi]
      exact al_add hd r (s + 1) _ (by omega) (by rw [show i - s = (i - (s + 1)) + 1 by omega] at hk; simpa using hk) (fun j k' hj ht hlt => by
        have := h (j + 1) k' (by simpa using hj) ht (by omega)
        rwa [show s + (j + 1) = s + 1 + j by omega] at this)
theorem wr_congr {t : Nat} {d d' : Nat → Bool} : ∀ (l : List Oper) (s : Nat) (c : Option Nat), (∀ j o, l[j]? = some o → o.dst = some t → d (s + j) = d' (s + j)) → wr d t l s c = wr d' t l s c
  | [], _, _, _ => rfl
  | o :: r, s, c, h => by
    unfold wr
    have e1 : (if d s && o.dst == some t then some s else c) = (if d' s && o.dst == some t then some s else c) := by
      by_cases ht : o.dst = some t
      · rw [show d s = d' s from by have := h 0 o (by simp) ht; simpa using this]
      · have : (o.dst == some t) = false := by simpa using ht
        simp [this]
    rw [e1]
    exact wr_congr r (s + 1) _ (fun j k' hj ht => by have := h (j + 1) k' (by simpa using hj) ht; rwa [show s + (j + 1) = s + 1 + j by omega] at this)
theorem wr_id {t : Nat} {d : Nat → Bool} : ∀ (l : List Oper) (s : Nat) (c : Option Nat), (∀ j o, l[j]? = some o → o.dst = some t → d (s + j) = false) → wr d t l s c = c
  | [], _, _, _ => rfl
  | o :: r, s, c, h => by
    unfold wr
    have e1 : (if d s && o.dst == some t then some s else c) = c := by
      by_cases ht : o.dst = some t
      · rw [show d s = false from by have := h 0 o (by simp) ht; simpa using this]; rfl
      · have : (o.dst == some t) = false := by simpa using ht
        simp [this]
    rw [e1]
    exact wr_id r (s + 1) _ (fun j k' hj ht => by have := h (j + 1) k' (by simpa using hj) ht; rwa [show s + (j + 1) = s + 1 + j by omega] at this)
theorem wr_add {t i : Nat} {d : Nat → Bool} {o0 : Oper} (hd : d i = false) : ∀ (l : List Oper) (s : Nat) (c : Option Nat), s ≤ i → l[i - s]? = some o0 → (∀ j o, l[j]? = some o → o.dst = some t → o0.dst = some t → i < s + j → d (s + j) = false) → wr (add d i) t l s c = if o0.dst = some t then some i else wr d t l s c
  | [], _, _, _, h, _ => by simp at h
  | o :: r, s, c, hs, hk, h => by
    unfold wr
    by_cases hi : s = i
    · subst hi
      rw [Nat.sub_self] at hk
      have : o = o0 := by simpa using hk
      subst this
      rw [add_same, hd]
      by_cases ht : o.dst = some t
      · have hb : (o.dst == some t) = true := by simpa using ht
        have h' : ∀ j o', r[j]? = some o' → o'.dst = some t → d (s + 1 + j) = false := fun j o' hj ho => by
          have := h (j + 1) o' (by simpa using hj) ho ht (by omega)
          rwa [show s + (j + 1) = s + 1 + j by omega] at this
        rw [hb, if_pos ht]
        simp only [Bool.and_true, if_true, Bool.false_eq_true, if_false]
        exact wr_id r (s + 1) _ (fun j o' hj ho => by rw [add_ne d (by omega)]; exact h' j o' hj ho)
      · have hb : (o.dst == some t) = false := by simpa using ht
        rw [hb, if_neg ht]
        simp only [Bool.and_false, Bool.false_eq_true, if_false]
        refine wr_congr r (s + 1) c (fun j o' hj ho => add_ne d (by omega))
    · rw [add_ne d hi]
      exact wr_add hd r (s + 1) _ (by omega) (by rw [show i - s = (i - (s + 1)) + 1 by omega] at hk; simpa using hk) (fun j o' hj ho h0 hlt => by
        have := h (j + 1) o' (by simpa using hj) ho h0 (by omega)
        rwa [show s + (j + 1) = s + 1 + j by omega] at this)
theorem wr_spec {t : Nat} {d : Nat → Bool} : ∀ (l : List Oper) (s : Nat) (c : Option Nat) (j : Nat), wr d t l s c = some j → c = some j ∨ (s ≤ j ∧ d j = true ∧ ∃ o, l[j - s]? = some o ∧ o.dst = some t)
  | [], _, _, _, h => .inl h
  | o :: r, s, c, j, h => by
    unfold wr at h
    rcases wr_spec r (s + 1) _ j h with h1 | ⟨h1, h2, o', h3, h4⟩
    · split at h1
      · rename_i hb
        cases h1
        simp only [Bool.and_eq_true, beq_iff_eq] at hb
        exact .inr ⟨Nat.le_refl _, hb.1, o, by simp, hb.2⟩
      · exact .inl h1
    · exact .inr ⟨by omega, h2, o', by rw [show j - s = (j - (s + 1)) + 1 by omega]; simpa using h3, h4⟩

/-! ### who comes ahead of whom -/
def mk1 (acc : List Nat) (o : Oper) : Nat := o.after.toList.foldl (fun s e => if Region.binds .any e then s ||| 2 ^ e.on ||| acc.getD e.on 0 else s) 0
def masks : List Oper → List Nat → List Nat
  | [], acc => acc
  | o :: r, acc => masks r (acc ++ [mk1 acc o])
def Dep (ops : Array Oper) (j i : Nat) : Prop := ∃ o, ops[i]? = some o ∧ ∃ e ∈ o.after, Region.binds .any e = true ∧ e.on = j
inductive Reach (ops : Array Oper) : Nat → Nat → Prop
  | one {j i : Nat} : Dep ops j i → Reach ops j i
  | step {j k i : Nat} : Reach ops j k → Dep ops k i → Reach ops j i
theorem mk1_spec {acc : List Nat} {o : Oper} {j : Nat} (h : (mk1 acc o).testBit j = true) : ∃ e ∈ o.after, Region.binds .any e = true ∧ (e.on = j ∨ (acc.getD e.on 0).testBit j = true) := by
  unfold mk1 at h
  have key : ∀ (l : List Edge) (s : Nat), (l.foldl (fun s e => if Region.binds .any e then s ||| 2 ^ e.on ||| acc.getD e.on 0 else s) s).testBit j = true → s.testBit j = true ∨ ∃ e ∈ l, Region.binds .any e = true ∧ (e.on = j ∨ (acc.getD e.on 0).testBit j = true) := by
    intro l
    induction l with
    | nil => intro s h; exact .inl h
    | cons e r ih =>
      intro s h
      rw [List.foldl_cons] at h
      rcases ih _ h with h1 | ⟨e', h1, h2⟩
      · split at h1
        · rename_i hb
          rw [Nat.testBit_or, Nat.testBit_or, Bool.or_eq_true, Bool.or_eq_true] at h1
          rcases h1 with (h1 | h1) | h1
          · exact .inl h1
          · rw [Nat.testBit_two_pow] at h1
            exact .inr ⟨e, List.mem_cons_self, hb, .inl (by simpa using h1)⟩
          · exact .inr ⟨e, List.mem_cons_self, hb, .inr h1⟩
        · exact .inl h1
      · exact .inr ⟨e', List.mem_cons_of_mem _ h1, h2⟩
  rcases key _ _ h with h1 | ⟨e, h1, h2⟩
  · simp at h1
  · exact ⟨e, by simpa using h1, h2⟩
theorem masks_spec {ops : Array Oper} : ∀ (r : List Oper) (acc : List Nat), ops.toList.drop acc.length = r → (∀ i j, (acc.getD i 0).testBit j = true → Reach ops j i) → ∀ i j, ((masks r acc).getD i 0).testBit j = true → Reach ops j i
  | [], acc, _, h => h
  | o :: r, acc, hr, h => by
    unfold masks
    have ho : ops[acc.length]? = some o := by
      have : (ops.toList.drop acc.length)[0]? = some o := by rw [hr]; rfl
      rw [List.getElem?_drop] at this
      simpa using this
    refine masks_spec r (acc ++ [mk1 acc o]) (by rw [List.length_append, ← List.drop_drop, hr]; rfl) (fun i j hij => ?_)
    rw [List.getD_eq_getElem?_getD, List.getElem?_append] at hij
    split at hij
    · exact h i j (by rw [List.getD_eq_getElem?_getD]; exact hij)
    · rename_i hlt
      by_cases hi : i = acc.length
      · subst hi
        simp only [Nat.sub_self, List.getElem?_cons_zero, Option.getD_some] at hij
        obtain ⟨e, he, hb, hor⟩ := mk1_spec hij
        have hd : Dep ops e.on acc.length := ⟨o, ho, e, he, hb, rfl⟩
        rcases hor with rfl | hor
        · exact .one hd
        · exact .step (h _ _ hor) hd
      · rw [List.getElem?_eq_none (by simp; omega)] at hij
        simp at hij
def dp (M : List Nat) (j i : Nat) : Bool := (M.getD i 0).testBit j
def meet (a b : List Nat) : Bool := a.any fun x => b.contains x
theorem meet_of {a b : List Nat} {x : Nat} (h1 : x ∈ a) (h2 : x ∈ b) : meet a b = true := List.any_eq_true.2 ⟨x, h1, by simpa using h2⟩
def tmpsOf (l : List Operand) : List Nat := l.filterMap fun | .tmp t => some t | _ => none
def reads (ops : Array Oper) (o : Oper) : List Nat := tmpsOf o.op.operands.toList ++ (match o.guard with | some (g, _) => ((ops[g]?).bind (·.dst)).toList | none => [])
def zipI {α : Type} : List α → Nat → List (Nat × α)
  | [], _ => []
  | x :: r, i => (i, x) :: zipI r (i + 1)
theorem zipI_mem {α : Type} : ∀ {l : List α} {s j : Nat} {x : α}, l[j]? = some x → (s + j, x) ∈ zipI l s
  | [], _, _, _, h => by simp at h
  | y :: r, s, 0, x, h => by simp at h; subst h; simp [zipI]
  | y :: r, s, j + 1, x, h => by
    unfold zipI
    refine List.mem_cons_of_mem _ ?_
    rw [show s + (j + 1) = s + 1 + j by omega]
    exact zipI_mem (by simpa using h)
/-- Slots are read behind who wrote them, and ahead of who writes them next. -/
def slotsOk (ops : Array Oper) (M : List Nat) (n : Nat) : Bool :=
  let z := zipI ops.toList 0
  let ws := z.filterMap fun p => p.2.dst.map fun t => (p.1, t)
  z.all fun p =>
    let l := p.2.dst.toList ++ reads ops p.2
    (p.2.dst.toList.all fun t => Nat.blt t n) && (p.2.after.toList.all fun e => !Region.binds .any e || Nat.blt e.on p.1) &&
    ws.all fun q => p.1 == q.1 || !l.contains q.2 || (bif Nat.blt q.1 p.1 then dp M q.1 p.1 else dp M p.1 q.1)
/-- Names are made once, and memory is looked at in order. -/
def memOk (M : List Nat) (base : List Nat) : List (Nat × OpS) → Bool
  | [] => true
  | (j, k) :: r =>
    (k.news.all fun e => !base.contains e && !k.uses.contains e && !k.cons.contains e && (Names k.prod).contains e) && (Names k.prod).all (fun e => k.cons.contains e || k.news.contains e) &&
    (r.all fun q => (!(meet k.touch q.2.acc || meet k.acc q.2.touch || meet k.news q.2.ns) || dp M j q.1) && !meet q.2.news (k.ns ++ k.acc)) && memOk M base r
def nsOf (g : List (Nat × T)) : List Nat := g.flatMap (·.2.ns)
def nsE (E : List (Nat × Option Ent)) : List Nat := E.flatMap fun p => p.1 :: (match p.2 with | some X => X.ns | none => [])
theorem memOk_at {M base : List Nat} : ∀ {l : List OpS} {s : Nat}, memOk M base (zipI l s) = true → ∀ {j : Nat} {k : OpS}, l[j]? = some k →
    ((∀ e ∈ k.news, e ∉ base ∧ e ∉ k.uses ∧ e ∉ k.cons ∧ e ∈ Names k.prod) ∧ (∀ e ∈ Names k.prod, e ∈ k.cons ∨ e ∈ k.news)) ∧ ∀ {i : Nat} {q : OpS}, l[i]? = some q → j < i →
      (((meet k.touch q.acc || meet k.acc q.touch || meet k.news q.ns) = true → dp M (s + j) (s + i) = true) ∧ ∀ e ∈ q.news, e ∉ k.ns ∧ e ∉ k.acc)
  | [], _, _, _, _, h => by simp at h
  | x :: r, s, h, 0, k, hk => by
    simp at hk; subst hk
    simp only [zipI, memOk, Bool.and_eq_true, List.all_eq_true] at h
    obtain ⟨⟨⟨h1, h2⟩, h3⟩, _⟩ := h
    refine ⟨⟨fun e he => by have := h1 e he; simp only [Bool.and_eq_true, Bool.not_eq_true', List.contains_eq_mem, decide_eq_false_iff_not, decide_eq_true_eq] at this; exact ⟨this.1.1.1, this.1.1.2, this.1.2, this.2⟩, fun e he => by have := h2 e he; simpa using this⟩, fun {i q} hi hlt => ?_⟩
    obtain ⟨i', rfl⟩ : ∃ i', i = i' + 1 := ⟨i - 1, by omega⟩
    have h4 := h3 (s + 1 + i', q) (zipI_mem (by simpa using hi))
    simp only [Bool.and_eq_true, Bool.or_eq_true, Bool.not_eq_true'] at h4
    refine ⟨fun hm => ?_, fun e he => ?_⟩
    · rw [show s + (i' + 1) = s + 1 + i' by omega, Nat.add_zero]
      rcases h4.1 with h5 | h5
      · rw [hm] at h5; cases h5
      · exact h5
    · have h6 := h4.2
      constructor
      · intro hx; rw [meet_of he (List.mem_append_left _ hx)] at h6; cases h6
      · intro hx; rw [meet_of he (List.mem_append_right _ hx)] at h6; cases h6
  | x :: r, s, h, j + 1, k, hk => by
    simp only [zipI, memOk, Bool.and_eq_true] at h
    obtain ⟨h1, h2⟩ := memOk_at (l := r) (s := s + 1) h.2 (j := j) (k := k) (by simpa using hk)
    refine ⟨h1, fun {i q} hi hlt => ?_⟩
    obtain ⟨i', rfl⟩ : ∃ i', i = i' + 1 := ⟨i - 1, by omega⟩
    have := h2 (i := i') (q := q) (by simpa using hi) (by omega)
    rwa [show s + 1 + j = s + (j + 1) by omega, show s + 1 + i' = s + (i' + 1) by omega] at this
end Go.Proofs.YtekghdfbhbhigaaGreat.V
/- A logic of calls: the law of regions, the rules of code. -/
set_option linter.unusedVariables false
set_option linter.unusedSimpArgs false
namespace Go.Proofs.YtekghdfbhbhigaaGreat.V
open Go.RowKit

/-- A value that is known. -/
def szOf : Value → Nat
  | .agg a => if a.toList.all Value.oneCell' then a.size else 0
  | .tuple _ => 0
  | _ => 1
def agOf : Value → Bool
  | .agg _ => true
  | _ => false
theorem szOf_shp {v : Value} (h : szOf v ≠ 0) : Flat v (szOf v) ∧ v = asVal (agOf v) v.cells.toList := by
  cases v with
  | agg a =>
    unfold szOf at h ⊢
    simp only at h ⊢
    split at h
    · rename_i ha; rw [if_pos ha]; exact ⟨⟨by simp [Value.cells], ha⟩, by simp [asVal, agOf, Value.cells]⟩
    · exact absurd rfl h
  | tuple a => exact absurd rfl h
  | _ => exact ⟨⟨rfl, rfl⟩, rfl⟩
def T.c (x : Value) : T := ⟨[], szOf x, agOf x, fun _ _ v => v = x, fun h hn => by subst h; exact szOf_shp hn, fun _ h => h, fun _ h => h⟩
def envl (g : List (Nat × T)) : Operand → Option T
  | .tmp t => lk g t
  | .const v => some (T.c v)
  | .global q => some (T.c (.pointer (some ⟨q, 0, none⟩)))
  | .func f => some (T.c (.func (.func f) #[] #[]))
def Res (P : Program) (m : Sem Next) (w : World) (Q : Value → World → Prop) : Prop := match m.run P w with
  | .ok (.value v) w' => Q v w'
  | .ok .skip w' => Q undef w'
  | .ok (.enter f args) w' => Calls P f args w' fun e w'' => ∃ v, e = .returned v ∧ Q v w''
  | .ok (.row row args) w' => Go.Rows P row args w' Q
  | .ok (.round l f tmps as bd) w' => RoundIn Fence.wide 0 P l f tmps as bd w' fun e w'' => ∃ v, e = .returned v ∧ Q v w''
  | _ => False
theorem sem_of {P : Program} {r : Option Nat} {ρ : Operand → Value} {o : Oper} {w : World} {Q : Value → World → Prop} (h : Res P (execOp ρ o) w Q) : o.semAt r ρ = execOp ρ o := by
  refine Oper.semAt_eq _ _ _ fun c hc => ?_
  unfold Res at h
  have e : execOp ρ o = (do pure (.defer (← resolve ρ c o.type)) : Sem Next) := by unfold execOp; rw [hc]
  rw [e, Sem.run_bind] at h
  cases hr : (resolve ρ c o.type).run P w with
  | ok d w' => rw [hr] at h; exact h
  | _ => rw [hr] at h; exact h
def OpOk (P : Program) (o : Oper) (env : Operand → Option T) (A : Nat → Option Ent) (k : OpS) : Prop := ∀ ρ β u w F, Sub u w → (∀ x ∈ o.op.operands, ∀ X, env x = some X → X.rep β u (ρ x)) → Hold β u w F A →
  Res P (execOp ρ o) w (After β u w F k.cons (lk k.prod) k.news k.out)
def GuardIs (ops : Array Oper) (g : List (Nat × T)) (o : Oper) (b : Bool) : Prop := (o.guard = none ∧ b = true) ∨ (∃ q c t e, o.guard = some (q, c) ∧ (ops[q]?).bind (·.dst) = some t ∧ lk g t = some (T.c (.bool e)) ∧ b = (e == c)) ∨ b = false ∧ ∃ q c t, o.guard = some (q, c) ∧ (ops[q]?).bind (·.dst) = some t ∧ lk g t = some (T.c undef)
def lkE (E : List (Nat × Option Ent)) (e : Nat) : Option Ent := (lk E e).getD none
def OpS.idle : OpS := ⟨[], [], [], [], T.c undef⟩
def StepOk (P : Program) (ops : Array Oper) (g : List (Nat × T)) (E : List (Nat × Option Ent)) (o : Oper) (k : OpS) : Prop :=
  (GuardIs ops g o true ∧ (∀ e ∈ k.cons, ∃ X, lkE E e = some X) ∧ OpOk P o (envl g) (fun e => if e ∈ k.uses ++ k.cons then lkE E e else none) k) ∨ (GuardIs ops g o false ∧ k = .idle)
def putg (d : Option Nat) (X : T) (g : List (Nat × T)) : List (Nat × T) := match d with | some t => (t, X) :: g | none => g
/-- Step by step, in the order of the text. -/
def J (P : Program) (ops : Array Oper) (fin : List OpS → List (Nat × T) → List (Nat × Option Ent) → Prop) : List Oper → List OpS → List (Nat × T) → List (Nat × Option Ent) → Prop
  | [], H, g, E => fin H g E
  | o :: r, H, g, E => ∃ k E', StepOk P ops g E o k ∧ (∀ f, lkE E' f = k.upd f (lkE E f)) ∧ J P ops fin r (k :: H) (putg o.dst k.out g) E'

def GR (g0 : List (Nat × T)) (ks : List OpS) (pre : List Oper) (g : List (Nat × T)) : Prop := ∀ t, lk g t = match wr (fun _ => true) t pre 0 none with | some j => (ks[j]?).map (·.out) | none => lk g0 t
def ER (E0 : List (Nat × Option Ent)) (ks : List OpS) (E : List (Nat × Option Ent)) : Prop := ∀ e, lkE E e = al (fun _ => true) e ks 0 (lkE E0 e)
theorem wr_append {d : Nat → Bool} {t : Nat} : ∀ (a b : List Oper) (s : Nat) (c : Option Nat), wr d t (a ++ b) s c = wr d t b (s + a.length) (wr d t a s c)
  | [], b, s, c => rfl
  | o :: r, b, s, c => by
    show wr d t (r ++ b) (s + 1) _ = _
    rw [wr_append r b (s + 1) _, List.length_cons, show s + 1 + r.length = s + (r.length + 1) by omega]
    rfl
theorem al_append {d : Nat → Bool} {e : Nat} : ∀ (a b : List OpS) (s : Nat) (c : Option Ent), al d e (a ++ b) s c = al d e b (s + a.length) (al d e a s c)
  | [], b, s, c => rfl
  | o :: r, b, s, c => by
    show al d e (r ++ b) (s + 1) _ = _
    rw [al_append r b (s + 1) _, List.length_cons, show s + 1 + r.length = s + (r.length + 1) by omega]
    rfl
theorem al_spec {d : Nat → Bool} {e : Nat} {Y : Ent} : ∀ (l : List OpS) (s : Nat) (c : Option Ent), al d e l s c = some Y → c = some Y ∨ ∃ j k, l[j]? = some k ∧ d (s + j) = true ∧ lk k.prod e = some Y
  | [], _, _, h => .inl h
  | k :: r, s, c, h => by
    unfold al at h
    rcases al_spec r (s + 1) _ h with h1 | ⟨j, k', h1, h2, h3⟩
    · split at h1
      · rename_i hd
        unfold OpS.upd at h1
        split at h1
        · rename_i X hX; cases h1; exact .inr ⟨0, k, by simp, by simpa using hd, hX⟩
        · split at h1
          · cases h1
          · exact .inl h1
      · exact .inl h1
    · exact .inr ⟨j + 1, k', by simpa using h1, by rw [show s + (j + 1) = s + 1 + j by omega]; exact h2, h3⟩
theorem J_run {P : Program} {ops : Array Oper} {fin : List OpS → List (Nat × T) → List (Nat × Option Ent) → Prop} {g0 : List (Nat × T)} {E0 : List (Nat × Option Ent)} : ∀ (r pre : List Oper) (H : List OpS) (g : List (Nat × T)) (E : List (Nat × Option Ent)),
    H.length = pre.length → GR g0 H.reverse pre g → ER E0 H.reverse E → J P ops fin r H g E →
    ∃ L g' E', L.length = r.length ∧ fin (L.reverse ++ H) g' E' ∧ GR g0 (H.reverse ++ L) (pre ++ r) g' ∧ ER E0 (H.reverse ++ L) E' ∧
      ∀ i k, L[i]? = some k → ∃ o gi Ei, r[i]? = some o ∧ GR g0 (H.reverse ++ L.take i) (pre ++ r.take i) gi ∧ ER E0 (H.reverse ++ L.take i) Ei ∧ StepOk P ops gi Ei o k
  | [], pre, H, g, E, hl, hg, hE, h => ⟨[], g, E, rfl, h, by simpa using hg, by simpa using hE, by simp⟩
  | o :: r, pre, H, g, E, hl, hg, hE, h => by
    obtain ⟨k, E', hs, hu, hJ⟩ := h
    have hg' : GR g0 (k :: H).reverse (pre ++ [o]) (putg o.dst k.out g) := fun t => by
      rw [wr_append, List.reverse_cons]
      unfold wr wr
      simp only [Bool.true_and, Nat.zero_add]
      have old : o.dst ≠ some t → lk (putg o.dst k.out g) t = lk g t := fun hd => by
        unfold putg
        split
        · rename_i t' ht
          rw [lk_cons, if_neg (fun e => hd (by rw [ht, e]))]
        · rfl
      by_cases hd : o.dst = some t
      · rw [hd]
        simp only [beq_self_eq_true, if_true]
        unfold putg
        rw [lk_cons, if_pos rfl, List.getElem?_append_right (by simp [hl])]
        simp [hl]
      · have hb : (o.dst == some t) = false := by simpa using hd
        rw [hb, old hd, hg t]
        simp only [Bool.false_eq_true, if_false]
        split
        · rename_i j hj
          have hlt : j < H.reverse.length := by
            rcases wr_spec _ _ _ _ hj with h1 | ⟨_, _, o', h1, _⟩
            · cases h1
            · have := (List.getElem?_eq_some_iff.1 h1).1
              simp; omega
          rw [List.getElem?_append_left hlt]
        · rfl
    have hE' : ER E0 (k :: H).reverse E' := fun e => by
      rw [List.reverse_cons, al_append, hu e, hE e]
      rfl
    obtain ⟨L, g', E'', h1, h2, h3, h4, h5⟩ := J_run r (pre ++ [o]) (k :: H) _ _ (by simp [hl]) hg' hE' hJ
    refine ⟨k :: L, g', E'', by simp [h1], by simpa using h2, by simpa using h3, by simpa using h4, fun i q hi => ?_⟩
    cases i with
    | zero => simp at hi; subst hi; exact ⟨o, g, E, by simp, by simpa using hg, by simpa using hE, hs⟩
    | succ i =>
      obtain ⟨o', gi, Ei, k1, k2, k3, k4⟩ := h5 i q (by simpa using hi)
      exact ⟨o', gi, Ei, by simpa using k1, by simpa using k2, by simpa using k3, k4⟩

/-! ### the law of regions -/
structure Ctx where
  w0 : World
  u0 : World
  own : Nat → Prop
  β0 : Env
  I : List Nat
  df : List Deferred
  rd : Option Nat
/-- A function's own activation: nothing is put off, no round. -/
structure Ctx0 where
  w0 : World
  u0 : World
  own : Nat → Prop
  β0 : Env
  I : List Nat
def Ctx0.up (c : Ctx0) : Ctx := ⟨c.w0, c.u0, c.own, c.β0, c.I, [], none⟩
instance : Coe Ctx0 Ctx := ⟨Ctx0.up⟩
/-- The fence: none, but that a round may be under way. -/
def Fc (r : Option Nat) : Fence := match r with | none => Fence.wide | some l => Fence.wide.inRound l
theorem fc_fn (r : Option Nat) (f : FuncId) : (Fc r).fn f := by cases r <;> exact trivial
theorem fc_depth (r : Option Nat) : (Fc r).depth = none := by cases r <;> rfl
theorem fc_calls {r : Option Nat} {n : Nat} {P : Program} {f : FuncId} {args : Array Value} {w : World} {R : Ending → World → Prop} (h : Calls P f args w R) : CallsIn (Fc r) n P f args w R := by
  cases r with
  | none => exact callsIn_wide.2 h
  | some l => exact CallsIn.inRound l (callsIn_wide.2 h)
theorem fc_rows {r : Option Nat} {n : Nat} {P : Program} {row : String} {args : Array Value} {w : World} {R : Value → World → Prop} (h : Go.Rows P row args w R) : RowsIn (Fc r) n P row args w R := by
  have h0 : RowsIn Fence.wide n P row args w R := fun c cs _ => let ⟨v, w', r, s⟩ := h c cs; ⟨v, w', r, stepsIn_wide.2 s⟩
  cases r with
  | none => exact h0
  | some l => exact h0
theorem fc_round {r : Option Nat} {n l : Nat} {P : Program} {f : FuncId} {tmps : Array Value} {as bd : Code} {w : World} {R : Ending → World → Prop} (h : RoundIn Fence.wide 0 P l f tmps as bd w R) : RoundIn (Fc r) n P l f tmps as bd w R := by
  have h0 : RoundIn Fence.wide n P l f tmps as bd w R := ⟨trivial, fun c cs _ => let ⟨e, w', r, s⟩ := h.2 c cs (room_wide _); ⟨e, w', r, s⟩⟩
  cases r with
  | none => exact h0
  | some l => exact h0
def InSt (c : Ctx) (n : Nat) (g : List (Nat × T)) (E : List (Nat × Option Ent)) (a : Act) (w : World) : Prop := ∃ β u F, a.defers = c.df ∧ a.tmps.size = n ∧ (∀ t X, lk g t = some X → ∃ v, a.tmps[t]? = some v ∧ X.rep β u v) ∧
  Hold β u w F (lkE E) ∧ Tr c.own c.u0 c.w0 u w ∧ (∀ e X k, lkE E e = some X → F e k → c.own k ∨ c.w0.heap.size ≤ k) ∧ ∀ e ∈ c.I, β e = c.β0 e
section
variable {P : Program} {Q : Exit → Act → World → Prop} {ops : Array Oper} {c : Ctx} {n : Nat} {g0 : List (Nat × T)} {E0 : List (Nat × Option Ent)} {ks : List OpS}
def sv (ops : Array Oper) (d : Nat → Bool) (f v0 : Nat → Value) (t : Nat) : Value := match wr d t ops.toList 0 none with | some j => f j | none => v0 t
structure RT (c : Ctx) (ops : Array Oper) (n : Nat) (g0 : List (Nat × T)) (E0 : List (Nat × Option Ent)) (ks : List OpS) (d : Nat → Bool) (f v0 : Nat → Value) (β : Env) (u : World) (F : FP) (a : Act) (w : World) : Prop where
  clo : ∀ i j, Dep ops i j → d j = true → d i = true
  defers : a.defers = c.df
  size : a.tmps.size = n
  slot : ∀ t, t < n → a.tmps[t]? = some (sv ops d f v0 t)
  ini : ∀ t X, lk g0 t = some X → t < n ∧ X.rep β u (v0 t)
  outs : ∀ j k, ks[j]? = some k → d j = true → k.out.rep β u (f j)
  hold : Hold β u w F (fun e => al d e ks 0 (lkE E0 e))
  tr : Tr c.own c.u0 c.w0 u w
  fp : ∀ e X k, al d e ks 0 (lkE E0 e) = some X → F e k → c.own k ∨ c.w0.heap.size ≤ k
  names : ∀ e ∈ c.I, β e = c.β0 e
theorem RT.reach {d : Nat → Bool} {f v0 : Nat → Value} {β : Env} {u w : World} {F : FP} {a : Act} (h : RT c ops n g0 E0 ks d f v0 β u F a w) {j i : Nat} (hr : Reach ops j i) : d i = true → d j = true := by
  induction hr with
  | one hd => exact h.clo _ _ hd
  | step _ hd ih => exact fun hi => ih (h.clo _ _ hd hi)
theorem lkE_base {E : List (Nat × Option Ent)} {e : Nat} {X : Ent} (h : lkE E e = some X) : e ∈ nsE E ∧ ∀ q ∈ X.ns, q ∈ nsE E := by
  unfold lkE at h
  cases hl : lk E e with
  | none => rw [hl] at h; cases h
  | some y =>
    rw [hl] at h
    have hy : y = some X := h
    subst hy
    have hm := lk_mem hl
    unfold nsE
    exact ⟨List.mem_flatMap.2 ⟨_, hm, List.mem_cons_self⟩, fun q hq => List.mem_flatMap.2 ⟨_, hm, List.mem_cons_of_mem _ hq⟩⟩
theorem lk_base {g : List (Nat × T)} {t : Nat} {X : T} (h : lk g t = some X) : ∀ q ∈ X.ns, q ∈ nsOf g := fun q hq => List.mem_flatMap.2 ⟨_, lk_mem h, hq⟩
def upd (f : Nat → Value) (i : Nat) (v : Value) : Nat → Value := fun k => if k = i then v else f k
theorem mem_tmps {t : Nat} {o : Oper} {ops : Array Oper} (h : Operand.tmp t ∈ o.op.operands) : t ∈ reads ops o := by
  unfold reads tmpsOf
  exact List.mem_append_left _ (List.mem_filterMap.2 ⟨.tmp t, by simpa using h, rfl⟩)
/-- What okR says of operation i, where those of d have come up, i not. -/
structure At (ops : Array Oper) (n : Nat) (base : List Nat) (ks : List OpS) (d : Nat → Bool) (i : Nat) (o : Oper) (k : OpS) : Prop where
  dst : ∀ t, o.dst = some t → t < n
  wrs : ∀ t, (o.dst = some t ∨ t ∈ reads ops o) → ∀ j o', ops[j]? = some o' → o'.dst = some t → j ≠ i → d j = decide (j < i)
  fresh : ∀ e ∈ k.news, e ∉ base
  prod : ∀ e X, lk k.prod e = some X → e ∈ k.cons ∨ e ∈ k.news
  tch : ∀ j q e, ks[j]? = some q → j ≠ i → e ∈ k.acc → e ∈ q.touch → d j = decide (j < i)
  tch' : ∀ j q e, ks[j]? = some q → j ≠ i → e ∈ k.touch → e ∈ q.acc → d j = decide (j < i)
  apart : ∀ j q e, ks[j]? = some q → d j = true → e ∈ k.news → e ∉ q.ns ∧ e ∉ Names q.prod
theorem okR_dst {M : List Nat} (h : slotsOk ops M n = true) {i : Nat} {o : Oper} (ho : ops[i]? = some o) : (∀ t, o.dst = some t → t < n) ∧ (∀ j, Dep ops j i → j < i) ∧ ∀ t, (o.dst = some t ∨ t ∈ reads ops o) → ∀ j o', ops[j]? = some o' → o'.dst = some t → j ≠ i → (j < i → dp M j i = true) ∧ (i < j → dp M i j = true) := by
  unfold slotsOk at h
  simp only [List.all_eq_true] at h
  have h1 := h (i, o) (by have := zipI_mem (l := ops.toList) (s := 0) (j := i) (x := o) (by simpa using ho); simpa using this)
  simp only [Bool.and_eq_true, List.all_eq_true] at h1
  obtain ⟨⟨h2, h3⟩, h4⟩ := h1
  refine ⟨fun t ht => Nat.le_of_ble_eq_true (h2 t (by simp [ht])), fun j ⟨o', ho', e, he, hb, hj⟩ => ?_, fun t ht j o' hj hd hne => ?_⟩
  · rw [ho] at ho'; cases ho'
    have := h3 e (by simpa using he)
    rw [hb, hj] at this
    exact Nat.le_of_ble_eq_true (by simpa [Nat.blt] using this)
  · have hm : (j, t) ∈ (zipI ops.toList 0).filterMap fun p => p.2.dst.map fun t => (p.1, t) := List.mem_filterMap.2 ⟨(j, o'), by have := zipI_mem (l := ops.toList) (s := 0) (j := j) (x := o') (by simpa using hj); simpa using this, by simp [hd]⟩
    have h5 := h4 (j, t) hm
    have hc : (o.dst.toList ++ reads ops o).contains t = true := by
      simp only [List.contains_eq_mem, List.mem_append, decide_eq_true_eq]
      rcases ht with ht | ht
      · exact .inl (by simp [ht])
      · exact .inr ht
    have hi : (i == j) = false := by simpa using Ne.symm hne
    simp only [hc, hi, Bool.not_true, Bool.or_false, Bool.false_or] at h5
    constructor
    · intro hl
      have : Nat.blt j i = true := Nat.ble_eq_true_of_le hl
      rwa [this] at h5
    · intro hl
      have : Nat.blt j i = false := by
        cases hb : Nat.blt j i with
        | false => rfl
        | true => have := Nat.le_of_ble_eq_true hb; omega
      rwa [this] at h5
theorem at_of {H : List OpS} {I : List Nat} (hks : ks = H.reverse) (hok : slotsOk ops (masks ops.toList []) n = true) (hmem : memOk (masks ops.toList []) (I ++ (nsOf g0 ++ nsE E0)) (zipI ks 0) = true)
    {d : Nat → Bool} {f v0 : Nat → Value} {β : Env} {u w : World} {F : FP} {a : Act} (hT : RT c ops n g0 E0 ks d f v0 β u F a w) {i : Nat} {o : Oper} {k : OpS} (ho : ops[i]? = some o) (hk : ks[i]? = some k) (hi : d i = false) (hdep : ∀ j, Dep ops j i → d j = true) :
    At ops n (I ++ (nsOf g0 ++ nsE E0)) ks d i o k := by
  have hM : ∀ i j, dp (masks ops.toList []) j i = true → Reach ops j i := fun i j h => masks_spec ops.toList [] rfl (fun i j h => by simp at h) i j h
  have hin : ∀ j, Reach ops j i → d j = true := fun j hr => by
    cases hr with
    | one h => exact hdep _ h
    | step h h' => exact hT.reach h (hdep _ h')
  have hout : ∀ j, Reach ops i j → d j = false := fun j hr => by
    cases hq : d j with
    | false => rfl
    | true => have := hT.reach hr hq; rw [hi] at this; cases this
  have ord : ∀ j, j ≠ i → (j < i → Reach ops j i) → (i < j → Reach ops i j) → d j = decide (j < i) := fun j hne h1 h2 => by
    rcases Nat.lt_or_gt_of_ne hne with h | h
    · rw [hin j (h1 h)]; simp [h]
    · rw [hout j (h2 h)]; simp; omega
  obtain ⟨h1, _, h3⟩ := okR_dst hok ho
  obtain ⟨⟨m1, m2⟩, m3⟩ := memOk_at hmem hk
  refine ⟨h1, fun t ht j o' hj hd hne => ?_, fun e he => (m1 e he).1, fun e X hX => m2 e (by unfold Names; exact List.mem_map.2 ⟨_, lk_mem hX, rfl⟩), fun j q e hq hne he he' => ?_, fun j q e hq hne he he' => ?_, fun j q e hq hd he => ?_⟩
  · obtain ⟨k1, k2⟩ := h3 t ht j o' hj hd hne
    exact ord j hne (fun h => hM _ _ (k1 h)) (fun h => hM _ _ (k2 h))
  · refine ord j hne (fun h => hM _ _ ?_) (fun h => hM _ _ ?_)
    · have := ((memOk_at hmem hq).2 hk h).1 (by rw [meet_of he' he]; rfl)
      simpa using this
    · have := (m3 hq h).1 (by rw [meet_of he he', Bool.or_true]; rfl)
      simpa using this
  · refine ord j hne (fun h => hM _ _ ?_) (fun h => hM _ _ ?_)
    · have := ((memOk_at hmem hq).2 hk h).1 (by rw [meet_of he' he, Bool.or_true]; rfl)
      simpa using this
    · have := (m3 hq h).1 (by rw [meet_of he he']; rfl)
      simpa using this
  · have hne : j ≠ i := fun e => by rw [e, hi] at hd; cases hd
    rcases Nat.lt_or_gt_of_ne hne with h | h
    · have := ((memOk_at hmem hq).2 hk h).2 e he
      refine ⟨this.1, fun h' => this.2 ?_⟩
      unfold OpS.acc OpS.touch
      exact List.mem_append_right _ (List.mem_append_right _ h')
    · refine ⟨fun h' => ?_, fun h' => ?_⟩
      · have := (m3 hq h).1 (by rw [meet_of he h', Bool.or_true])
        have := hout j (hM _ _ (by simpa using this))
        rw [hd] at this; cases this
      · have hacc : e ∈ q.acc := by unfold OpS.acc OpS.touch; exact List.mem_append_right _ (List.mem_append_right _ h')
        have ht : e ∈ k.touch := List.mem_append_right _ (m1 e he).2.2.2
        have := (m3 hq h).1 (by rw [meet_of ht hacc]; rfl)
        have := hout j (hM _ _ (by simpa using this))
        rw [hd] at this; cases this
theorem wr_lt {d : Nat → Bool} {i t : Nat} : wr (fun j => decide (j < i)) t ops.toList 0 none = wr (fun _ => true) t (ops.toList.take i) 0 none := by
  conv => lhs; rw [← List.take_append_drop i ops.toList]
  rw [wr_append, wr_id (d := fun j => decide (j < i)) (ops.toList.drop i)]
  · refine wr_congr _ _ _ (fun j o hj _ => ?_)
    have := (List.getElem?_eq_some_iff.1 hj).1
    simp only [List.length_take] at this
    simp; omega
  · intro j o hj _
    have h1 := (List.getElem?_eq_some_iff.1 hj).1
    simp only [List.length_drop] at h1
    simp only [List.length_take, Nat.zero_add, decide_eq_false_iff_not]
    omega
theorem al_lt {i e : Nat} {c0 : Option Ent} : al (fun j => decide (j < i)) e ks 0 c0 = al (fun _ => true) e (ks.take i) 0 c0 := by
  conv => lhs; rw [← List.take_append_drop i ks]
  rw [al_append, al_id (d := fun j => decide (j < i)) (ks.drop i)]
  · refine al_congr _ _ _ (fun j o hj _ => ?_)
    have := (List.getElem?_eq_some_iff.1 hj).1
    simp only [List.length_take] at this
    simp; omega
  · intro j o hj _
    have h1 := (List.getElem?_eq_some_iff.1 hj).1
    simp only [List.length_drop] at h1
    simp only [List.length_take, Nat.zero_add, decide_eq_false_iff_not]
    omega
theorem Hold.none (β : Env) (u w : World) (F : FP) : Hold β u w F (lk []) := ⟨(fun e X h => by cases h), (fun e X q h => by cases h), (fun e f X Y q h => by cases h)⟩
/-- A value has come up: the state behind. -/
theorem t_put {d : Nat → Bool} {f v0 : Nat → Value} {β β' : Env} {u w u' w' : World} {F F' : FP} {a : Act} {i : Nat} {o : Oper} {k : OpS} {base : List Nat} (hbase : base = c.I ++ (nsOf g0 ++ nsE E0)) (hT : RT c ops n g0 E0 ks d f v0 β u F a w) (hA : At ops n base ks d i o k) (ho : ops[i]? = some o) (hk : ks[i]? = some k) (hi : d i = false) (hdep : ∀ j, Dep ops j i → d j = true)
    (hcons : ∀ e ∈ k.cons, ∃ X, al d e ks 0 (lkE E0 e) = some X) {v : Value} (hb : ∀ e, e ∉ k.news → β' e = β e) (ht : Tr (Fp F k.cons) u w u' w') (hO : Hold β' u' w' F' (lk k.prod)) (hF : ∀ e X q, lk k.prod e = some X → F' e q → Fp F k.cons q ∨ w.heap.size ≤ q) (hv : k.out.rep β' u' v) :
    RT c ops n g0 E0 ks (add d i) (upd f i v) v0 β' u' (fun e => if (lk k.prod e).isSome then F' e else F e) (a.put o.dst v) w' := by
  have hadd : ∀ e, al (add d i) e ks 0 (lkE E0 e) = match lk k.prod e with | some X => some X | none => if e ∈ k.cons then none else al d e ks 0 (lkE E0 e) := fun e => by
    by_cases he : e ∈ k.touch
    · rw [al_add hi ks 0 _ (Nat.zero_le _) (by simpa using hk) (fun j q hj ht hlt => by
        have := hA.tch' j q e hj (by omega) he (by unfold OpS.acc; exact List.mem_append_right _ ht)
        rw [Nat.zero_add, this]; simp; omega)]
      unfold OpS.upd
      cases lk k.prod e <;> simp
    · rw [al_congr (d := add d i) (d' := d) ks 0 _ (fun j q hj ht => add_ne d (fun e1 => by
        rw [Nat.zero_add] at e1; subst e1; rw [hk] at hj; cases hj; exact he ht))]
      have h1 : lk k.prod e = none := lk_names (fun h => he (List.mem_append_right _ h))
      rw [h1]
      simp only
      rw [if_neg (fun h => he (List.mem_append_left _ h))]
  have hfp : ∀ b, Fp F k.cons b → c.own b ∨ c.w0.heap.size ≤ b := fun b ⟨e, he, hb⟩ => by
    obtain ⟨X, hX⟩ := hcons e he
    exact hT.fp e X b hX hb
  have hfr := frame (O := lk k.prod) (C := k.cons) (N := k.news) hT.hold (fun f Y hf hfc hfo => by
    have nb : ∀ e ∈ k.news, e ∉ nsE E0 := fun e he h => hA.fresh e he (by rw [hbase]; simp [h])
    rcases al_spec _ _ _ hf with h1 | ⟨j, q, h1, h2, h3⟩
    · obtain ⟨b1, b2⟩ := lkE_base h1
      exact ⟨fun h => nb f h b1, fun e he h => nb e h (b2 e he)⟩
    · rw [Nat.zero_add] at h2
      refine ⟨fun h => (hA.apart j q f h1 h2 h).2 (by unfold Names; exact List.mem_map.2 ⟨_, lk_mem h3, rfl⟩), fun e he h => (hA.apart j q e h1 h2 h).1 ?_⟩
      unfold OpS.ns
      exact List.mem_append_right _ (List.mem_flatMap.2 ⟨_, lk_mem h3, he⟩)) hb ht hO hF hcons
  refine ⟨fun p j hp hj => ?_, ?_, ?_, fun t htn => ?_, fun t X hX => ?_, fun j q hq hj => ?_, ?_, hT.tr.trans ht hfp, fun e X b he hFb => ?_, fun e he => ?_⟩
  · unfold add at *
    by_cases hji : j = i
    · subst hji; simp [hdep p hp]
    · simp [hji] at hj
      simp [hT.clo p j hp hj]
  · cases hd : o.dst <;> exact hT.defers
  · cases hd : o.dst with
    | none => exact hT.size
    | some q => simpa [Act.put] using hT.size
  · unfold sv
    have hwr : wr (add d i) t ops.toList 0 none = if o.dst = some t then some i else wr d t ops.toList 0 none :=
      wr_add hi ops.toList 0 none (Nat.zero_le _) (by simpa using ho) (fun j o' hj hd h0 hlt => by
        have := hA.wrs t (.inl h0) j o' (by simpa using hj) hd (by omega)
        rw [Nat.zero_add, this]; simp; omega)
    rw [hwr]
    by_cases hd : o.dst = some t
    · rw [if_pos hd, hd]
      simp only
      unfold Act.put
      rw [Array.getElem?_setIfInBounds_self_of_lt (by rw [hT.size]; exact htn)]
      simp [upd]
    · rw [if_neg hd]
      have e1 : (a.put o.dst v).tmps[t]? = a.tmps[t]? := by
        cases ho' : o.dst with
        | none => rfl
        | some q =>
          have hq : q ≠ t := fun e => hd (by rw [ho', e])
          simp [Act.put, hq]
      rw [e1, hT.slot t htn]
      unfold sv
      split
      · rename_i j hj
        rcases wr_spec _ _ _ _ hj with h1 | ⟨_, h2, _⟩
        · cases h1
        · unfold upd
          rw [if_neg (fun e => by rw [e, hi] at h2; cases h2)]
      · rfl
  · obtain ⟨h1, h2⟩ := hT.ini t X hX
    exact ⟨h1, X.mono ht.old (X.ext (fun e he => hb e (fun h => hA.fresh e h (by rw [hbase]; simp [lk_base hX e he]))) h2)⟩
  · by_cases hji : j = i
    · subst hji
      rw [hk] at hq; cases hq
      unfold upd
      rw [if_pos rfl]
      exact hv
    · rw [add_ne d hji] at hj
      unfold upd
      rw [if_neg hji]
      exact q.out.mono ht.old (q.out.ext (fun e he => hb e (fun h => (hA.apart j q e hq hj h).1 (by unfold OpS.ns; exact List.mem_append_left _ he))) (hT.outs j q hq hj))
  · have : (fun e => al (add d i) e ks 0 (lkE E0 e)) = fun e => match lk k.prod e with | some X => some X | none => if e ∈ k.cons then none else al d e ks 0 (lkE E0 e) := funext hadd
    rw [this]
    exact hfr
  · rw [hadd e] at he
    cases hp : lk k.prod e with
    | some Y =>
      rw [hp] at hFb
      simp only [Option.isSome_some, if_true] at hFb
      rcases hF e Y b hp hFb with h1 | h1
      · exact hfp b h1
      · exact .inr (Nat.le_trans hT.tr.size h1)
    | none =>
      rw [hp] at he hFb
      simp only [Option.isSome_none, Bool.false_eq_true, if_false] at he hFb
      split at he
      · cases he
      · exact hT.fp e X b he hFb
  · rw [hb e (fun h => hA.fresh e h (by rw [hbase]; simp [he]))]
    exact hT.names e he
theorem t_step {H : List OpS} (hks : ks = H.reverse) (hok : slotsOk ops (masks ops.toList []) n = true) (hsel : Region.noSelect ops = true) (hmem : memOk (masks ops.toList []) (c.I ++ (nsOf g0 ++ nsE E0)) (zipI ks 0) = true)
    (hrun : ∀ i k, ks[i]? = some k → ∃ o gi Ei, ops[i]? = some o ∧ GR g0 (ks.take i) (ops.toList.take i) gi ∧ ER E0 (ks.take i) Ei ∧ StepOk P ops gi Ei o k)
    {d : Nat → Bool} {f v0 : Nat → Value} {β : Env} {u w : World} {F : FP} {a : Act} (hT : RT c ops n g0 E0 ks d f v0 β u F a w) {i : Nat} {o : Oper} (ho : ops[i]? = some o) {k : OpS} (hk : ks[i]? = some k) (hi : d i = false) (hdep : ∀ j, Dep ops j i → d j = true) :
    wpOpIn (Fc c.rd) 0 P ops Q i (fun a' w' => ∃ f β u F, RT c ops n g0 E0 ks (add d i) f v0 β u F a' w') a w := by
  have hA := at_of hks hok hmem hT ho hk hi hdep
  obtain ⟨o', gi, Ei, ho', hg, hE, hs⟩ := hrun i k hk
  rw [ho] at ho'; cases ho'
  have hslot : ∀ t, t ∈ reads ops o → ∀ X, lk gi t = some X → t < n ∧ X.rep β u (sv ops d f v0 t) := fun t ht X hX => by
    rw [hg t, ← wr_lt (d := d)] at hX
    have hw : wr d t ops.toList 0 none = wr (fun j => decide (j < i)) t ops.toList 0 none := wr_congr _ _ _ (fun j o' hj hd => by
      rw [Nat.zero_add]
      by_cases hji : j = i
      · subst hji; rw [hi]; simp
      · exact hA.wrs t (.inr ht) j o' (by simpa using hj) hd hji)
    unfold sv
    rw [hw]
    cases hq : wr (fun j => decide (j < i)) t ops.toList 0 none with
    | none =>
      rw [hq] at hX
      exact hT.ini t X hX
    | some j =>
      rw [hq] at hX
      obtain ⟨q, hq1, hq2⟩ := Option.map_eq_some_iff.1 hX
      rw [← hw] at hq
      rcases wr_spec _ _ _ _ hq with h1 | ⟨_, h2, oj, h3, h4⟩
      · cases h1
      · rw [List.getElem?_take] at hq1
        split at hq1
        · subst hq2
          exact ⟨(okR_dst hok (show ops[j]? = some oj by simpa using h3)).1 t h4, hT.outs j q hq1 h2⟩
        · cases hq1
  have heval : ∀ x ∈ o.op.operands, ∀ X, envl gi x = some X → X.rep β u (a.eval x) := fun x hx X hX => by
    cases x with
    | tmp t =>
      obtain ⟨h1, h2⟩ := hslot t (mem_tmps hx) X hX
      have := hT.slot t h1
      simp only [Act.eval, Array.getD_eq_getD_getElem?, this, Option.getD_some]
      exact h2
    | const v => cases hX; rfl
    | global q => cases hX; rfl
    | func q => cases hX; rfl
  have hwant : ∀ b, GuardIs ops gi o b → Region.wanted o (yielded ops a.tmps) = b := fun b hg => by
    rcases hg with ⟨h1, rfl⟩ | ⟨q, cc, t, e, h1, h2, h3, rfl⟩ | ⟨rfl, q, cc, t, h1, h2, h3⟩
    · unfold Region.wanted; rw [h1]
    · have ht : t ∈ reads ops o := by
        unfold reads
        rw [h1]
        exact List.mem_append_right _ (by simp [h2])
      obtain ⟨k1, k2⟩ := hslot t ht _ h3
      have h4 := hT.slot t k1
      rw [show sv ops d f v0 t = .bool e from k2] at h4
      unfold Region.wanted
      rw [h1]
      have : yielded ops a.tmps q = some e := by
        unfold yielded
        rw [h2]
        simp [h4]
      show (yielded ops a.tmps q == some cc) = _
      rw [this]
      simp
    · have ht : t ∈ reads ops o := by
        unfold reads
        rw [h1]
        exact List.mem_append_right _ (by simp [h2])
      obtain ⟨k1, k2⟩ := hslot t ht _ h3
      have h4 := hT.slot t k1
      rw [show sv ops d f v0 t = undef from k2] at h4
      unfold Region.wanted
      rw [h1]
      have : yielded ops a.tmps q = none := by
        unfold yielded
        rw [h2]
        simp [h4, undef]
      show (yielded ops a.tmps q == some cc) = _
      rw [this]
      rfl
  unfold wpOpIn
  simp only [ho]
  rcases hs with ⟨hgd, hcons, hop⟩ | ⟨hgd, rfl⟩
  · rw [hwant true hgd, if_pos rfl]
    have hal : ∀ e ∈ k.uses ++ k.cons, al d e ks 0 (lkE E0 e) = lkE Ei e := fun e he => by
      rw [hE e, ← al_lt]
      refine al_congr _ _ _ (fun j q hj ht => ?_)
      rw [Nat.zero_add]
      by_cases hji : j = i
      · subst hji; rw [hi]; simp
      · exact hA.tch j q e hj hji (by
          unfold OpS.acc OpS.touch
          rcases List.mem_append.1 he with h | h
          · exact List.mem_append_left _ h
          · exact List.mem_append_right _ (List.mem_append_left _ h)) ht
    have hsub : ∀ e X, (if e ∈ k.uses ++ k.cons then lkE Ei e else none) = some X → al d e ks 0 (lkE E0 e) = some X := fun e X h => by
      split at h
      · rename_i he; rw [hal e he]; exact h
      · cases h
    have hres := hop a.eval β u w F hT.tr.sub heval ⟨fun e X h => hT.hold.hold e X (hsub e X h), fun e X q h => hT.hold.dead e X q (hsub e X h), fun e e' X Y q h h' => hT.hold.apart e e' X Y q (hsub e X h) (hsub e' Y h')⟩
    have hcons' : ∀ e ∈ k.cons, ∃ X, al d e ks 0 (lkE E0 e) = some X := fun e he => by
      rw [hal e (List.mem_append_right _ he)]; exact hcons e he
    have fin : ∀ v w', After β u w F k.cons (lk k.prod) k.news k.out v w' → ∃ f β u F, RT c ops n g0 E0 ks (add d i) f v0 β u F (a.put o.dst v) w' := fun v w' ⟨u', β', F', h1, h2, h3, h4, h5⟩ =>
      ⟨_, β', u', _, t_put rfl hT hA ho hk hi hdep hcons' h1 h2 h3 h4 h5⟩
    unfold Oper.wpIn
    refine ⟨fun f _ => fc_fn _ f, ?_⟩
    rw [sem_of hres]
    unfold Res at hres
    split at hres
    · rename_i h; rw [h]; exact fin _ _ hres
    · rename_i h; rw [h]; exact fin _ _ hres
    · rename_i h
      rw [h]
      refine ⟨fun hd => (by rw [fc_depth] at hd; cases hd), fc_calls (Calls.mono hres (fun e w' he => ?_))⟩
      obtain ⟨v, rfl, hv⟩ := he
      exact fin _ _ hv
    · rename_i h
      rw [h]
      exact ⟨fun hd => (by rw [fc_depth] at hd; cases hd), fc_rows (Go.Rows.mono hres (fun v w' hv => fin _ _ hv))⟩
    · rename_i h
      rw [h]
      refine ⟨fun hd => (by rw [fc_depth] at hd; cases hd), fc_round (RoundIn.mono hres (fun e w' he => ?_))⟩
      obtain ⟨v, rfl, hv⟩ := he
      exact fin _ _ hv
    · exact hres.elim
  · rw [hwant false hgd, if_neg (by simp)]
    exact ⟨fun f _ => fc_fn _ f, _, β, u, _, t_put rfl hT hA ho hk hi hdep (fun e he => absurd he (List.not_mem_nil)) (β' := β) (F' := F) (v := undef) (fun _ _ => rfl) (Tr.refl hT.tr.sub) (Hold.none β u w F) (fun e X q h => by cases h) rfl⟩
def allD (ops : Array Oper) : Nat → Bool := fun k => decide (k < ops.size)
theorem getD_set (l : Array Bool) (i k : Nat) (hi : i < l.size) : (l.setIfInBounds i true).getD k false = (k == i || l.getD k false) := by
  by_cases h : k = i
  · subst h; simp [hi]
  · have h' : (k == i) = false := by simpa using h
    rw [h', Bool.false_or, Array.getD_eq_getD_getElem?, Array.getD_eq_getD_getElem?, Array.getElem?_setIfInBounds_ne (Ne.symm h)]
theorem ready_all (hlt : ∀ i j, Dep ops j i → j < i) (l : Array Bool) (hl : l.size = ops.size) (hr : Region.ready .any ops l = []) : ∀ k, k < ops.size → l.getD k false = true := by
  intro k
  induction k using Nat.strongRecOn with
  | _ k ih =>
    intro hk
    cases hq : l.getD k false with
    | true => rfl
    | false =>
      have hm : k ∈ Region.ready .any ops l := mem_ready.2 ⟨by simp [hl, hk] at hq ⊢; exact hq, ops[k], Array.getElem?_eq_getElem hk, fun e he hb => by
        have := hlt k e.on ⟨_, Array.getElem?_eq_getElem hk, e, he, hb, rfl⟩
        exact ih _ this (by omega)⟩
      rw [hr] at hm
      cases hm
def left (l : Array Bool) : Nat := (l.toList.filter (· == false)).length
theorem left_set {l : Array Bool} {i : Nat} (hi : i < l.size) (hf : l.getD i true = false) : left (l.setIfInBounds i true) + 1 = left l := by
  have aux : ∀ (l : List Bool) (i : Nat), l[i]? = some false → ((l.set i true).filter (· == false)).length + 1 = (l.filter (· == false)).length := by
    intro l
    induction l with
    | nil => intro i h; simp at h
    | cons x r ih =>
      intro i h
      cases i with
      | zero => simp at h; subst h; simp
      | succ i =>
        have := ih i (by simpa using h)
        cases x <;> simp_all <;> omega
  unfold left
  rw [Array.toList_setIfInBounds]
  exact aux _ _ (by simp [hi] at hf ⊢; exact hf)
theorem any_of {S : (Nat → Bool) → Act → World → Prop} (hlt : ∀ i j, Dep ops j i → j < i) (step : ∀ d i o a w, S d a w → ops[i]? = some o → d i = false → (∀ j, Dep ops j i → d j = true) → wpOpIn (Fc c.rd) 0 P ops Q i (fun a' w' => S (add d i) a' w') a w) (fin : ∀ a w, S (allD ops) a w → Q .normal a w) :
    ∀ (fuel : Nat) (l : Array Bool) (a : Act) (w : World), l.size = ops.size → left l ≤ fuel → S (fun k => l.getD k false) a w → wpAnyIn (Fc c.rd) 0 P .any ops Q fuel l a w := by
  have done : ∀ (l : Array Bool) (a : Act) (w : World), l.size = ops.size → Region.ready .any ops l = [] → S (fun k => l.getD k false) a w → Q .normal a w := fun l a w hl hr hT => by
    have e : (fun k => l.getD k false) = allD ops := by
      funext k
      unfold allD
      by_cases hk : k < ops.size
      · rw [ready_all hlt l hl hr k hk]; simp [hk]
      · simp [hk, Array.getElem?_eq_none (show l.size ≤ k by omega)]
    rw [e] at hT
    exact fin a w hT
  intro fuel
  induction fuel with
  | zero =>
    intro l a w hl hf hT
    have hr : Region.ready .any ops l = [] := by
      cases hr : Region.ready .any ops l with
      | nil => rfl
      | cons i r =>
        have hm : i ∈ Region.ready .any ops l := by rw [hr]; simp
        obtain ⟨h1, o, ho, _⟩ := mem_ready.1 hm
        have hi : i < l.size := by rw [hl]; exact (Array.getElem?_eq_some_iff.1 ho).1
        have := left_set hi h1
        omega
    exact ⟨hr, done l a w hl hr hT⟩
  | succ fuel ih =>
    intro l a w hl hf hT
    refine ⟨fun hr => done l a w hl hr hT, fun i hi => ?_⟩
    obtain ⟨h1, o, ho, hall⟩ := mem_ready.1 hi
    have hlt' : i < l.size := by rw [hl]; exact (Array.getElem?_eq_some_iff.1 ho).1
    have hst := step _ i o a w hT ho (by simp [hlt'] at h1 ⊢; exact h1) (fun j ⟨o', ho', e, he, hb, hj⟩ => by
      rw [ho] at ho'; cases ho'
      rw [← hj]
      exact hall e he hb)
    refine wpOpIn_mono (fun a' w' hT' => ih _ a' w' (by simpa using hl) (by have := left_set hlt' h1; omega) ?_) hst
    have e : (fun k => (l.setIfInBounds i true).getD k false) = add (fun k => l.getD k false) i := by
      funext k
      rw [getD_set l i k hlt']
      rfl
    rw [e]
    exact hT'
theorem seq_of {S : (Nat → Bool) → Act → World → Prop} (hlt : ∀ i j, Dep ops j i → j < i) (step : ∀ d i o a w, S d a w → ops[i]? = some o → d i = false → (∀ j, Dep ops j i → d j = true) → wpOpIn (Fc c.rd) 0 P ops Q i (fun a' w' => S (add d i) a' w') a w) (fin : ∀ a w, S (allD ops) a w → Q .normal a w) :
    ∀ (m s : Nat) (a : Act) (w : World), s + m = ops.size → S (fun k => decide (k < s)) a w → wpOpsIn (Fc c.rd) 0 P ops Q (List.range' s m) a w := by
  intro m
  induction m with
  | zero =>
    intro s a w hs hT
    simp only [List.range'_zero, wpOpsIn]
    refine fin a w ?_
    have : s = ops.size := by omega
    subst this
    exact hT
  | succ m ih =>
    intro s a w hs hT
    rw [List.range'_succ, wpOpsIn_cons]
    have hst := step _ s _ a w hT (Array.getElem?_eq_getElem (show s < ops.size by omega)) (by simp) (fun k hk => by have := hlt s k hk; simpa using this)
    refine wpOpIn_mono (fun a' w' hT' => ih (s + 1) a' w' (by omega) ?_) hst
    have e : (fun k => decide (k < s + 1)) = add (fun k => decide (k < s)) s := by
      funext k
      unfold add
      rw [Bool.eq_iff_iff]
      simp only [decide_eq_true_eq, Bool.or_eq_true, beq_iff_eq]
      omega
    rw [e]
    exact hT'
/-- A region. -/
theorem wp_reg (hm : P.follows .mixedOrders = true) {a : Act} {w : World} (hS : InSt c n g0 E0 a w)
    (hJ : J P ops (fun H g E => (slotsOk ops (masks ops.toList []) n && Region.noSelect ops && memOk (masks ops.toList []) (c.I ++ (nsOf g0 ++ nsE E0)) (zipI H.reverse 0)) = true ∧ ∀ a w, InSt c n g E a w → Q .normal a w) ops.toList [] g0 E0) (id : Nat) (draw : Bool) : (Code.region id ops draw).wpIn (Fc c.rd) 0 P Q a w := by
  obtain ⟨ks, g', E', hl, ⟨hok, hfin⟩, hg, hE, hrun⟩ := J_run ops.toList [] [] g0 E0 rfl (fun t => rfl) (fun e => rfl) hJ
  simp only [List.append_nil, List.reverse_reverse, Bool.and_eq_true] at hok
  simp only [List.reverse_nil, List.nil_append] at hg hE
  obtain ⟨⟨hok1, hok2⟩, hok3⟩ := hok
  have hrun' : ∀ i k, ks[i]? = some k → ∃ o gi Ei, ops[i]? = some o ∧ GR g0 (ks.take i) (ops.toList.take i) gi ∧ ER E0 (ks.take i) Ei ∧ StepOk P ops gi Ei o k := fun i k hk => by
    obtain ⟨o, gi, Ei, h1, h2, h3, h4⟩ := hrun i k hk
    exact ⟨o, gi, Ei, by simpa using h1, by simpa using h2, by simpa using h3, h4⟩
  have hlt : ∀ i j, Dep ops j i → j < i := fun i j hd => by
    obtain ⟨o, ho, hr⟩ := hd
    exact (okR_dst hok1 ho).2.1 j ⟨o, ho, hr⟩
  have go : ∀ w, InSt c n g0 E0 a w → (∃ f β u F, RT c ops n g0 E0 ks (fun _ => false) f (fun t => (a.tmps[t]?).getD undef) β u F a w) := fun w hS => by
    obtain ⟨β, u, F, h1, h2, h3, h4, h5, h6, h7⟩ := hS
    have e1 : ∀ t, wr (fun _ => false) t ops.toList 0 none = none := fun t => wr_id _ _ _ (fun _ _ _ _ => rfl)
    have e2 : ∀ e, al (fun _ => false) e ks 0 (lkE E0 e) = lkE E0 e := fun e => al_id _ _ _ (fun _ _ _ _ => rfl)
    refine ⟨fun _ => undef, β, u, F, (fun _ _ _ h => by cases h), h1, h2, fun t ht => ?_, fun t X hX => ?_, (fun _ _ _ h => by cases h), ?_, h5, fun e X k he hk => h6 e X k (by rw [e2 e] at he; exact he) hk, h7⟩
    · unfold sv
      rw [e1]
      obtain ⟨v, hv⟩ : ∃ v, a.tmps[t]? = some v := ⟨_, Array.getElem?_eq_getElem (by omega)⟩
      simp [hv]
    · obtain ⟨v, k1, k2⟩ := h3 t X hX
      exact ⟨by have := (Array.getElem?_eq_some_iff.1 k1).1; omega, by rw [k1]; exact k2⟩
    · rw [show (fun e => al (fun _ => false) e ks 0 (lkE E0 e)) = lkE E0 from funext e2]
      exact h4
  have step : ∀ d i o a' w', (∃ f β u F, RT c ops n g0 E0 ks d f (fun t => (a.tmps[t]?).getD undef) β u F a' w') → ops[i]? = some o → d i = false → (∀ j, Dep ops j i → d j = true) → wpOpIn (Fc c.rd) 0 P ops Q i (fun a2 w2 => ∃ f β u F, RT c ops n g0 E0 ks (add d i) f (fun t => (a.tmps[t]?).getD undef) β u F a2 w2) a' w' := fun d i o a' w' ⟨f, β, u, F, hT⟩ ho hi hdep => by
    have hlen : i < ks.length := by rw [hl]; have := (Array.getElem?_eq_some_iff.1 ho).1; simpa using this
    exact t_step (H := ks.reverse) (by simp) hok1 hok2 hok3 hrun' hT ho (List.getElem?_eq_getElem hlen) hi hdep
  have fin : ∀ a' w', (∃ f β u F, RT c ops n g0 E0 ks (allD ops) f (fun t => (a.tmps[t]?).getD undef) β u F a' w') → Q .normal a' w' := fun a' w' ⟨f, β, u, F, hT⟩ => by
    refine hfin a' w' ⟨β, u, F, hT.defers, hT.size, fun t X hX => ?_, ?_, hT.tr, fun e X k he hk => hT.fp e X k ?_ hk, hT.names⟩
    · have e1 : wr (allD ops) t ops.toList 0 none = wr (fun _ => true) t ops.toList 0 none := wr_congr _ _ _ (fun j o hj _ => by
        have := (List.getElem?_eq_some_iff.1 hj).1
        unfold allD; simp at this ⊢; omega)
      rw [hg t, ← e1] at hX
      cases hq : wr (allD ops) t ops.toList 0 none with
      | none =>
        rw [hq] at hX
        obtain ⟨k1, k2⟩ := hT.ini t X hX
        exact ⟨_, hT.slot t k1, by unfold sv; rw [hq]; exact k2⟩
      | some j =>
        rw [hq] at hX
        obtain ⟨q, hq1, hq2⟩ := Option.map_eq_some_iff.1 hX
        rcases wr_spec _ _ _ _ hq with h1 | ⟨_, h2, oj, h3, h4⟩
        · cases h1
        · subst hq2
          refine ⟨_, hT.slot t ((okR_dst hok1 (show ops[j]? = some oj by simpa using h3)).1 t h4), by unfold sv; rw [hq]; exact hT.outs j q hq1 h2⟩
    · have e2 : (fun e => al (allD ops) e ks 0 (lkE E0 e)) = lkE E' := funext fun e => by
        rw [hE e]
        refine al_congr _ _ _ (fun j k hj _ => ?_)
        have := (List.getElem?_eq_some_iff.1 hj).1
        unfold allD; simp at hl ⊢; omega
      rw [← e2]
      exact hT.hold
    · rw [hE e] at he
      rw [← he]
      refine al_congr _ _ _ (fun j k hj _ => ?_)
      have := (List.getElem?_eq_some_iff.1 hj).1
      unfold allD; simp at hl ⊢; omega
  cases draw with
  | true =>
    refine wpIn_region_any hm (any_of hlt step fin _ _ _ _ (by simp) (by unfold left; refine Nat.le_trans (List.length_filter_le _ _) ?_; simp) ?_)
    have e : (fun k => (Array.replicate ops.size false).getD k false) = fun _ => false := by
      funext k
      by_cases hk : k < ops.size <;> simp [hk]
    rw [e]
    refine go _ ?_
    obtain ⟨β, u, F, h1, h2, h3, h4, h5, h6, h7⟩ := hS
    exact ⟨β, u, F, h1, h2, h3, ⟨fun e X h => X.loc (w := w) (fun k _ => rfl) (h4.hold e X h), h4.dead, h4.apart⟩, ⟨h5.os, h5.tape, h5.output, h5.size, h5.block, h5.old, h5.sub, h5.dead⟩, h6, h7⟩
  | false =>
    refine wpIn_region ?_
    rw [List.range_eq_range']
    refine seq_of hlt step fin _ 0 a w (by omega) ?_
    have e : (fun k => decide (k < 0)) = fun _ => false := by funext k; simp
    rw [e]
    exact go w hS
end
end Go.Proofs.YtekghdfbhbhigaaGreat.V
/- A logic of calls: the rules of code and of functions. -/
set_option linter.unusedVariables false
set_option linter.unusedSimpArgs false
namespace Go.Proofs.YtekghdfbhbhigaaGreat.V
open Go.RowKit

def T.le (X Y : T) : Prop := ∀ β u v, X.rep β u v → Y.rep β u v
theorem T.le.refl (X : T) : X.le X := fun _ _ _ h => h
theorem T.le.of {X Y : T} (h : X = Y) : X.le Y := h ▸ T.le.refl X
def Ent.le (X Y : Ent) : Prop := ∀ β u w v F, X.hold β u w v F → Y.hold β u w v F
theorem Ent.le.refl (X : Ent) : X.le X := fun _ _ _ _ _ h => h
theorem Ent.le.of {X Y : Ent} (h : X = Y) : X.le Y := h ▸ Ent.le.refl X
/-- These slots are among those. -/
def SubG : List (Nat × T) → List (Nat × T) → Prop
  | [], _ => True
  | (t, Y) :: r, g => (∃ X, lk g t = some X ∧ X.le Y) ∧ SubG r g
theorem sn {g : List (Nat × T)} : SubG [] g := trivial
theorem sl {g r : List (Nat × T)} (t : Nat) {X : T} (h : lk g t = some X) (k : SubG r g) : SubG ((t, X) :: r) g := ⟨⟨X, h, .refl X⟩, k⟩
theorem sw {g r : List (Nat × T)} (t : Nat) {X Y : T} (h : lk g t = some X) (e : X.le Y) (k : SubG r g) : SubG ((t, Y) :: r) g := ⟨⟨X, h, e⟩, k⟩
theorem subG_lk : ∀ {r g : List (Nat × T)} {t : Nat} {Y : T}, SubG r g → lk r t = some Y → ∃ X, lk g t = some X ∧ X.le Y
  | [], _, _, _, _, h => by cases h
  | (k, Z) :: r, g, t, Y, ⟨h1, h2⟩, h => by
    rw [lk_cons] at h
    split at h
    · rename_i e; subst e; cases h; exact h1
    · exact subG_lk h2 h
def SubE : List (Nat × Option Ent) → List (Nat × Option Ent) → Prop
  | [], _ => True
  | (_, none) :: r, E => SubE r E
  | (e, some Y) :: r, E => (∃ X, lkE E e = some X ∧ X.le Y) ∧ SubE r E
theorem en {E : List (Nat × Option Ent)} : SubE [] E := trivial
theorem el {E r : List (Nat × Option Ent)} (e : Nat) {X : Ent} (h : lkE E e = some X) (k : SubE r E) : SubE ((e, some X) :: r) E := ⟨⟨X, h, .refl X⟩, k⟩
theorem ew {E r : List (Nat × Option Ent)} (e : Nat) {X Y : Ent} (h : lkE E e = some X) (l : X.le Y) (k : SubE r E) : SubE ((e, some Y) :: r) E := ⟨⟨X, h, l⟩, k⟩
theorem subE_lk : ∀ {r E : List (Nat × Option Ent)} {e : Nat} {Y : Ent}, SubE r E → lkE r e = some Y → ∃ X, lkE E e = some X ∧ X.le Y
  | [], _, _, _, _, h => by cases h
  | (k, none) :: r, E, e, Y, hs, h => by
    unfold lkE at h
    rw [lk_cons] at h
    split at h
    · cases h
    · exact subE_lk (r := r) hs h
  | (k, some Z) :: r, E, e, Y, ⟨h1, h2⟩, h => by
    unfold lkE at h
    rw [lk_cons] at h
    split at h
    · rename_i e; subst e; cases h; exact h1
    · exact subE_lk (r := r) h2 h

/-- In the state of these slots and this memory. -/
def PN (c : Ctx) (n : Nat) (Q : Act → World → Prop) (g : List (Nat × T)) (E : List (Nat × Option Ent)) : Prop := ∀ a w, InSt c n g E a w → Q a w
def Tri (P : Program) (x : Code) (Q : Exit → Act → World → Prop) (c : Ctx) (n : Nat) (g : List (Nat × T)) (E : List (Nat × Option Ent)) : Prop := PN c n (fun a w => x.wpIn (Fc c.rd) 0 P Q a w) g E
section
variable {P : Program} {Q : Exit → Act → World → Prop} {K : Act → World → Prop} {c : Ctx} {n : Nat} {g g' : List (Nat × T)} {E E' : List (Nat × Option Ent)} {x y : Code}
theorem InSt.sub {a : Act} {w : World} (h : InSt c n g E a w) (hg : SubG g' g) (hE : SubE E' E) : InSt c n g' E' a w := by
  obtain ⟨β, u, F, h1, h2, h3, h4, h5, h6, h7⟩ := h
  refine ⟨β, u, F, h1, h2, fun t Y hY => ?_, ⟨fun e Y hY => ?_, fun e Y k hY hk => ?_, fun e f Y Z k hY hZ hne hk => ?_⟩, h5, fun e Y k hY hk => ?_, h7⟩
  · obtain ⟨X, hX, hl⟩ := subG_lk hg hY
    obtain ⟨v, k1, k2⟩ := h3 t X hX
    exact ⟨v, k1, hl _ _ _ k2⟩
  · obtain ⟨X, hX, hl⟩ := subE_lk hE hY
    exact hl _ _ _ _ _ (h4.hold e X hX)
  · obtain ⟨X, hX, hl⟩ := subE_lk hE hY
    exact h4.dead e X k hX hk
  · obtain ⟨X, hX, _⟩ := subE_lk hE hY
    obtain ⟨X', hX', _⟩ := subE_lk hE hZ
    exact h4.apart e f X X' k hX hX' hne hk
  · obtain ⟨X, hX, hl⟩ := subE_lk hE hY
    exact h6 e X k hX hk
theorem PN.sub (hg : SubG g' g) (hE : SubE E' E) (h : PN c n K g' E') : PN c n K g E := fun a w hS => h a w (hS.sub hg hE)
/-- On to what follows. -/
theorem nx (hg : SubG g' g) (hE : SubE E' E) (h : Tri P y Q c n g' E') : PN c n (Exit.then (y.wpIn (Fc c.rd) 0 P Q) Q .normal) g E := fun a w hS => h a w (hS.sub hg hE)
theorem tri_sub (hg : SubG g' g) (hE : SubE E' E) (h : Tri P y Q c n g' E') : Tri P y Q c n g E := fun a w hS => h a w (hS.sub hg hE)
theorem tri_reg (hm : P.follows .mixedOrders = true) {I : List Nat} (hI : c.I = I) {ops : Array Oper}
    (h : J P ops (fun H g' E' => (slotsOk ops (masks ops.toList []) n && Region.noSelect ops && memOk (masks ops.toList []) (I ++ (nsOf g ++ nsE E)) (zipI H.reverse 0)) = true ∧ PN c n (Q .normal) g' E') ops.toList [] g E) (id : Nat) (draw : Bool) : Tri P (.region id ops draw) Q c n g E := fun a w hS => by
  subst hI
  exact wp_reg hm hS h id draw
theorem tri_seq (h : Tri P x (Exit.then (y.wpIn (Fc c.rd) 0 P Q) Q) c n g E) : Tri P (.seq x y) Q c n g E := fun a w hS => wpIn_seq (h a w hS)
/-- Ways that meet again. -/
theorem tri_join {ι : Type} (G : ι → List (Nat × T)) (M : ι → List (Nat × Option Ent)) (inv : ι → Prop) (hx : Tri P x (Exit.then (fun a w => ∃ i, inv i ∧ InSt c n (G i) (M i) a w) Q) c n g E) (hy : ∀ i, inv i → Tri P y Q c n (G i) (M i)) : Tri P (.seq x y) Q c n g E := fun a w hS =>
  wpIn_seq (wpIn_mono (hx a w hS) fun e a' w' hq => by
    cases e with
    | normal => obtain ⟨i, hi, hS'⟩ := hq; exact hy i hi a' w' hS'
    | _ => exact hq)
theorem pn_join {ι : Type} {G : ι → List (Nat × T)} {M : ι → List (Nat × Option Ent)} {inv : ι → Prop} (i : ι) (hi : inv i) (hg : SubG (G i) g) (hE : SubE (M i) E) : PN c n (fun a w => ∃ i, inv i ∧ InSt c n (G i) (M i) a w) g E := fun a w hS => ⟨i, hi, hS.sub hg hE⟩
theorem tri_skip (h : PN c n (Q .normal) g E) : Tri P .skip Q c n g E := fun a w hS => wpIn_skip (h a w hS)
theorem tri_exit {id : Nat} (h : PN c n (Q (.exit id)) g E) : Tri P (.exit id) Q c n g E := fun a w hS => wpIn_exit (h a w hS)
theorem tri_block {id : Nat} (h : Tri P x (Exit.inBlock id Q) c n g E) : Tri P (.block id x) Q c n g E := fun a w hS => wpIn_block (h a w hS)
theorem tri_ret (h : PN c n (Q .ret) g E) : Tri P .ret Q c n g E := fun a w hS => wpIn_ret (h a w hS)
theorem st_bool {a : Act} {w : World} {t : Nat} {b : Bool} (hS : InSt c n g E a w) (h : lk g t = some (T.c (.bool b))) : a.eval (.tmp t) = .bool b := by
  obtain ⟨β, u, F, h1, h2, h3, _⟩ := hS
  obtain ⟨v, k1, k2⟩ := h3 t _ h
  rw [show v = .bool b from k2] at k1
  simp [Act.eval, k1]
theorem tri_true {t : Nat} {b : Bool} (hc : lk g t = some (T.c (.bool b))) (hb : b = true) (h : Tri P x Q c n g E) : Tri P (.cond (.tmp t) x y) Q c n g E := fun a w hS => wpIn_cond_true (hb ▸ st_bool hS hc) (h a w hS)
theorem tri_false {t : Nat} {b : Bool} (hc : lk g t = some (T.c (.bool b))) (hb : b = false) (h : Tri P y Q c n g E) : Tri P (.cond (.tmp t) x y) Q c n g E := fun a w hS => wpIn_cond_false (hb ▸ st_bool hS hc) (h a w hS)
/-- The same of a condition that is a proposition. -/
theorem tri_if {t : Nat} {p : Prop} [Decidable p] (hc : lk g t = some (T.c (.bool (decide p)))) (h1 : p → Tri P x Q c n g E) (h2 : ¬ p → Tri P y Q c n g E) : Tri P (.cond (.tmp t) x y) Q c n g E := by
  by_cases hp : p
  · exact tri_true hc (by simpa using hp) (h1 hp)
  · exact tri_false hc (by simpa using hp) (h2 hp)
theorem pn_blk {id : Nat} (h : PN c n (Q .normal) g E) : PN c n (Exit.inBlock id Q .normal) g E := h
theorem pn_ex {id : Nat} (h : PN c n (Q .normal) g E) : PN c n (Exit.inBlock id Q (.exit id)) g E := fun a w hS => by
  show Exit.inBlock id Q (.exit id) a w
  simp only [Exit.inBlock, if_true]
  exact h a w hS
theorem pn_oth {id id' : Nat} (hne : id' ≠ id) (h : PN c n (Q (.exit id')) g E) : PN c n (Exit.inBlock id Q (.exit id')) g E := fun a w hS => by
  show Exit.inBlock id Q (.exit id') a w
  simp only [Exit.inBlock]
  rw [if_neg (by simpa using hne)]
  exact h a w hS
theorem pn_then {id : Nat} (h : PN c n (Q (.exit id)) g E) : PN c n (Exit.then K Q (.exit id)) g E := h
theorem pn_thenr (h : PN c n (Q .ret) g E) : PN c n (Exit.then K Q .ret) g E := h
theorem pn_blkr {id : Nat} (h : PN c n (Q .ret) g E) : PN c n (Exit.inBlock id Q .ret) g E := h
theorem least (p : Nat → Prop) (h : ∃ n, p n) : ∃ n, p n ∧ ∀ m, p m → n ≤ m := by
  obtain ⟨n, hn⟩ := h
  induction n using Nat.strongRecOn with
  | _ n ih =>
    by_cases hx : ∃ m, m < n ∧ p m
    · obtain ⟨m, h1, h2⟩ := hx; exact ih m h1 h2
    · exact ⟨n, hn, fun m hm => Nat.le_of_not_lt (fun h => hx ⟨m, h, hm⟩)⟩
/-- A loop: its states are told by what ι holds; μ falls. -/
theorem tri_loop {ι : Type} (G : ι → List (Nat × T)) (M : ι → List (Nat × Option Ent)) (μ : ι → Nat) (inv : ι → Prop) (i : ι) (hi : inv i) (hg : SubG (G i) g) (hE : SubE (M i) E)
    (round : ∀ i, inv i → Tri P x (Exit.then (fun a w => ∃ j, μ j < μ i ∧ inv j ∧ InSt c n (G j) (M j) a w) Q) c n (G i) (M i)) : Tri P (.loop x) Q c n g E := fun a w hS => by
  classical
  let R : Nat → Act → World → Prop := fun m a w => ∃ i, μ i = m ∧ inv i ∧ InSt c n (G i) (M i) a w
  refine wpIn_loop (fun a w => ∃ m, R m a w) (fun a w => if h : ∃ m, R m a w then Classical.choose (least _ h) else 0) ⟨μ i, i, rfl, hi, hS.sub hg hE⟩ fun a w hI => ?_
  have hl := Classical.choose_spec (least _ hI)
  obtain ⟨i, hμ, hi, hS⟩ := hl.1
  refine wpIn_mono (round i hi a w hS) fun e a' w' hq => ?_
  cases e with
  | normal =>
    obtain ⟨j, hlt, hj, hA⟩ := hq
    have hI' : ∃ m, R m a' w' := ⟨μ j, j, rfl, hj, hA⟩
    refine ⟨hI', ?_⟩
    rw [dif_pos hI', dif_pos hI]
    exact Nat.lt_of_le_of_lt ((Classical.choose_spec (least _ hI')).2 (μ j) ⟨j, rfl, hj, hA⟩) (hμ ▸ hlt)
  | _ => exact hq
theorem pn_back {ι : Type} {G : ι → List (Nat × T)} {M : ι → List (Nat × Option Ent)} {μ : ι → Nat} {inv : ι → Prop} {m : Nat} (j : ι) (hm : μ j < m) (hj : inv j) (hg : SubG (G j) g) (hE : SubE (M j) E) : PN c n (Exit.then (fun a w => ∃ j, μ j < m ∧ inv j ∧ InSt c n (G j) (M j) a w) Q .normal) g E := fun a w hS => ⟨j, hm, hj, hS.sub hg hE⟩
end

/-! ### functions -/
def Reps (β : Env) (u : World) : List T → List Value → Prop
  | [], [] => True
  | X :: r, v :: s => X.rep β u v ∧ Reps β u r s
  | _, _ => False
/-- A function: of such arguments and such memory it makes such memory and such a value. -/
def Fn (P : Program) (f : FuncId) (As : List T) (Ei Eo : List (Nat × Ent)) (N : List Nat) (R : T) : Prop := ∀ vs β u w F, Sub u w → Reps β u As vs → Hold β u w F (lk Ei) →
  Calls P f vs.toArray w fun e w' => ∃ v, e = .returned v ∧ After β u w F (Names Ei) (lk Eo) N R v w'
theorem Reps.len {β : Env} {u : World} : ∀ {As : List T} {vs : List Value}, Reps β u As vs → vs.length = As.length
  | [], [], _ => rfl
  | X :: r, v :: s, h => by simp [Reps.len h.2]
  | [], _ :: _, h => h.elim
  | _ :: _, [], h => h.elim
theorem Reps.at {β : Env} {u : World} : ∀ {As : List T} {vs : List Value} {i : Nat} {X : T}, Reps β u As vs → As[i]? = some X → ∃ v, vs[i]? = some v ∧ X.rep β u v
  | Y :: r, v :: s, 0, X, h, hX => by simp at hX; subst hX; exact ⟨v, rfl, h.1⟩
  | Y :: r, v :: s, i + 1, X, h, hX => by simpa using Reps.at h.2 (by simpa using hX)
  | [], _, _, _, _, hX => by simp at hX
  | _ :: _, [], _, _, h, _ => h.elim
def LeL : List T → List T → Prop
  | [], [] => True
  | X :: r, Y :: s => X.le Y ∧ LeL r s
  | _, _ => False
theorem Reps.le {β : Env} {u : World} : ∀ {As Bs : List T} {vs : List Value}, Reps β u As vs → LeL As Bs → Reps β u Bs vs
  | [], [], [], _, _ => trivial
  | X :: r, Y :: s, v :: t, h, k => ⟨k.1 _ _ _ h.1, Reps.le h.2 k.2⟩
  | [], [], _ :: _, h, _ => h.elim
  | _ :: _, _, [], h, _ => h.elim
  | [], _ :: _, _, _, k => k.elim
  | _ :: _, [], _, _, k => k.elim
theorem Reps.mono {β : Env} {u u' : World} (hs : Sub u u') : ∀ {As : List T} {vs : List Value}, Reps β u As vs → Reps β u' As vs
  | [], [], h => h
  | X :: r, v :: s, h => ⟨X.mono hs h.1, Reps.mono hs h.2⟩
  | [], _ :: _, h => h.elim
  | _ :: _, [], h => h.elim
theorem Reps.ext {β β' : Env} {u : World} : ∀ {As : List T} {vs : List Value}, (∀ e ∈ As.flatMap (·.ns), β' e = β e) → Reps β u As vs → Reps β' u As vs
  | [], [], _, h => h
  | X :: r, v :: s, hn, h => ⟨X.ext (fun e he => hn e (by simp only [List.flatMap_cons, List.mem_append]; exact .inl he)) h.1, Reps.ext (fun e he => hn e (by simp only [List.flatMap_cons, List.mem_append]; exact .inr he)) h.2⟩
  | [], _ :: _, _, h => h.elim
  | _ :: _, [], _, h => h.elim
def argl : Nat → List T → List (Nat × T)
  | _, [] => []
  | i, X :: r => (i, X) :: argl (i + 1) r
theorem lk_argl : ∀ (l : List T) (i t : Nat) (X : T), lk (argl i l) t = some X → i ≤ t ∧ l[t - i]? = some X
  | [], _, _, _, h => by cases h
  | Y :: r, i, t, X, h => by
    unfold argl at h
    rw [lk_cons] at h
    split at h
    · rename_i e; subst e; exact ⟨Nat.le_refl _, by simpa using h⟩
    · obtain ⟨h1, h2⟩ := lk_argl r (i + 1) t X h
      refine ⟨by omega, ?_⟩
      rw [show t - i = (t - (i + 1)) + 1 by omega]
      simpa using h2
def somes (E : List (Nat × Ent)) : List (Nat × Option Ent) := E.map fun p => (p.1, some p.2)
theorem lkE_somes : ∀ (E : List (Nat × Ent)) (e : Nat), lkE (somes E) e = lk E e
  | [], _ => rfl
  | (k, X) :: r, e => by
    have := lkE_somes r e
    unfold lkE somes at *
    rw [List.map_cons, lk_cons, lk_cons]
    split
    · rfl
    · exact this
def Back (c : Ctx) (Eo : List (Nat × Ent)) (N : List Nat) (R : T) (e : Ending) (w' : World) : Prop := ∃ v, e = .returned v ∧ ∃ u' β' F', (∀ e, e ∉ N → β' e = c.β0 e) ∧ Tr c.own c.u0 c.w0 u' w' ∧ Hold β' u' w' F' (lk Eo) ∧ (∀ e X k, lk Eo e = some X → F' e k → c.own k ∨ c.w0.heap.size ≤ k) ∧ R.rep β' u' v
section
variable {P : Program} {c : Ctx} {n : Nat} {g : List (Nat × T)} {E : List (Nat × Option Ent)} {fn : Func}
def nsEnts (E : List (Nat × Ent)) : List Nat := E.flatMap fun p => p.1 :: p.2.ns
theorem fn_of {f : FuncId} {x : Code} {As : List T} {Ei Eo : List (Nat × Ent)} {N : List Nat} {R : T} (hf : P.funcs[f]? = some fn) (hb : fn.body = some x) (ha : As.length ≤ fn.ntmps)
    (h : ∀ c : Ctx0, c.up.I = nsOf (argl 0 As) ++ nsEnts Ei → Tri P x (bodyPost P fn (Back c.up Eo N R)) c.up fn.ntmps (argl 0 As) (somes Ei)) : Fn P f As Ei Eo N R := fun vs β u w F hs hr hH => by
  have hl := hr.len
  refine (calls_of_wp hf hb (wpIn_wide.1 (h ⟨w, u, Fp F (Names Ei), β, _⟩ rfl _ w ⟨β, u, F, rfl, by simp; omega, fun t X hX => ?_, ?_, Tr.refl hs, fun e X k he hk => .inl ?_, fun _ _ => rfl⟩))).mono fun e w' he => ?_
  · obtain ⟨_, h2⟩ := lk_argl _ _ _ _ hX
    rw [Nat.sub_zero] at h2
    obtain ⟨v, h3, h4⟩ := hr.at h2
    have hlt := (List.getElem?_eq_some_iff.1 h3).1
    exact ⟨v, by simp [Array.getElem?_append, hlt, h3]; simpa [hlt] using h3, h4⟩
  · rw [show lkE (somes Ei) = lk Ei from funext (lkE_somes Ei)]; exact hH
  · rw [lkE_somes] at he
    exact ⟨e, List.mem_map.2 ⟨_, lk_mem he, rfl⟩, hk⟩
  · obtain ⟨v, rfl, u', β', F', h1, h2, h3, h4, h5⟩ := he
    exact ⟨v, rfl, u', β', F', h1, h2, h3, h4, h5⟩
/-- What a result variable says. -/
def RV (P : Program) (g : List (Nat × T)) (E : List (Nat × Option Ent)) (r : ResultVar) (X : T) : Prop := ∀ β u w F (tmps : Array Value), Sub u w → (∀ t Y, lk g t = some Y → ∃ v, tmps[t]? = some v ∧ Y.rep β u v) → Hold β u w F (lkE E) →
  ∃ v, (match r with | .tmp t => (pure (tmps.getD t undef) : Sem Value) | .cell a t => do loadVar t (← asAddr (tmps.getD a undef))).run P w = .ok v w ∧ X.rep β u v
theorem rv_tmp {t : Nat} {X : T} (h : lk g t = some X) : RV P g E (.tmp t) X := fun β u w F tmps hs ht hH => by
  obtain ⟨v, h1, h2⟩ := ht t X h
  exact ⟨v, by simp [h1], h2⟩
def T.tup (l : List T) : T := ⟨l.flatMap (·.ns), 0, false, fun β u v => ∃ vs : List Value, v = .tuple vs.toArray ∧ Reps β u l vs, fun _ h => absurd rfl h, fun hs ⟨vs, e, h⟩ => ⟨vs, e, h.mono hs⟩, fun hn ⟨vs, e, h⟩ => ⟨vs, e, h.ext hn⟩⟩
def retOk (I : List Nat) (Eo : List (Nat × Ent)) (N : List Nat) (R : T) : Bool := (nsEnts Eo ++ R.ns).all fun e => I.contains e || N.contains e
theorem ret_any {Eo : List (Nat × Ent)} {N I : List Nat} {R : T} (hI : c.I = I) (hok : retOk I Eo N R = true) (hE : SubE (somes Eo) E) {X : T} (hX : X.le R)
    (hr : ∀ β u w F (tmps : Array Value), Sub u w → (∀ t Y, lk g t = some Y → ∃ v, tmps[t]? = some v ∧ Y.rep β u v) → Hold β u w F (lkE E) → ∃ v, (results fn tmps).run P w = .ok v w ∧ X.rep β u v) (hdf : c.df = []) : PN c n (bodyPost P fn (Back c Eo N R) .ret) g E := fun a w hS => by
  obtain ⟨β, u, F, h1, h2, h3, h4, h5, h6, h7⟩ := hS
  obtain ⟨v, k1, k2⟩ := hr β u w F a.tmps h5.sub h3 h4
  unfold retOk at hok
  simp only [List.all_eq_true, Bool.or_eq_true, List.contains_eq_mem, decide_eq_true_eq] at hok
  have hβ : ∀ e ∈ nsEnts Eo ++ R.ns, (if e ∈ N then β e else c.β0 e) = β e := fun e he => by
    rcases hok e he with h | h
    · by_cases hn : e ∈ N
      · rw [if_pos hn]
      · rw [if_neg hn]; exact (h7 e (hI ▸ h)).symm
    · rw [if_pos h]
  have hlk : ∀ e Y, lk Eo e = some Y → ∃ X, lkE E e = some X ∧ X.le Y := fun e Y h => subE_lk hE (by rw [lkE_somes]; exact h)
  have hns : ∀ e Y, lk Eo e = some Y → e ∈ nsEnts Eo ++ R.ns ∧ ∀ q ∈ Y.ns, q ∈ nsEnts Eo ++ R.ns := fun e Y h => by
    have hm := lk_mem h
    unfold nsEnts
    exact ⟨List.mem_append_left _ (List.mem_flatMap.2 ⟨_, hm, List.mem_cons_self⟩), fun q hq => List.mem_append_left _ (List.mem_flatMap.2 ⟨_, hm, List.mem_cons_of_mem _ hq⟩)⟩
  refine bodyPost_ret k1 (h1.trans hdf) ⟨v, rfl, u, fun e => if e ∈ N then β e else c.β0 e, F, fun e he => if_neg he, h5, ⟨fun e Y hY => ?_, fun e Y k hY hk => ?_, fun e f Y Z k hY hZ hne hk => ?_⟩, fun e Y k hY hk => ?_, R.ext (fun e he => hβ e (List.mem_append_right _ he)) (hX _ _ _ k2)⟩
  · obtain ⟨X, hX, hl⟩ := hlk e Y hY
    rw [hβ e (hns e Y hY).1]
    exact Y.ext (fun q hq => hβ q ((hns e Y hY).2 q hq)) (hl _ _ _ _ _ (h4.hold e X hX))
  · obtain ⟨X, hX, _⟩ := hlk e Y hY
    exact h4.dead e X k hX hk
  · obtain ⟨X, hX, _⟩ := hlk e Y hY
    obtain ⟨X', hX', _⟩ := hlk f Z hZ
    exact h4.apart e f X X' k hX hX' hne hk
  · obtain ⟨X, hX, _⟩ := hlk e Y hY
    exact h6 e X k hX hk
variable {Eo : List (Nat × Ent)} {N I : List Nat} {R X Y Z : T} {r s q : ResultVar}
theorem ret1 (hI : c.I = I) (hr : fn.results = #[r]) (h : RV P g E r X) (hX : X.le R) (hE : SubE (somes Eo) E) (hok : retOk I Eo N R = true := by kernel_rfl) (hdf : c.df = [] := by rfl) : PN c n (bodyPost P fn (Back c Eo N R) .ret) g E :=
  ret_any hI hok hE hX (hdf := hdf) fun β u w F tmps hs ht hH => by
    obtain ⟨v, h1, h2⟩ := h β u w F tmps hs ht hH
    refine ⟨v, ?_, h2⟩
    have key : ∀ G : ResultVar → Sem Value, (G r).run P w = .ok v w → ((do let vs ← #[r].mapM G; pure (if h : vs.size = 1 then vs[0] else .tuple vs) : Sem Value)).run P w = .ok v w := fun G h1 => by simp [h1]
    unfold results
    rw [hr]
    exact key (fun r => match r with | .tmp t => (pure (tmps.getD t undef) : Sem Value) | .cell a t => do loadVar t (← asAddr (tmps.getD a undef))) h1
theorem ret2 (hI : c.I = I) (hr : fn.results = #[r, s]) (h : RV P g E r X) (k : RV P g E s Y) (hX : (T.tup [X, Y]).le R) (hE : SubE (somes Eo) E) (hok : retOk I Eo N R = true := by kernel_rfl) (hdf : c.df = [] := by rfl) : PN c n (bodyPost P fn (Back c Eo N R) .ret) g E :=
  ret_any hI hok hE hX (hdf := hdf) fun β u w F tmps hs ht hH => by
    obtain ⟨v, h1, h2⟩ := h β u w F tmps hs ht hH
    obtain ⟨x, k1, k2⟩ := k β u w F tmps hs ht hH
    refine ⟨.tuple #[v, x], ?_, [v, x], rfl, h2, k2, trivial⟩
    have key : ∀ G : ResultVar → Sem Value, (G r).run P w = .ok v w → (G s).run P w = .ok x w → ((do let vs ← #[r, s].mapM G; pure (if h : vs.size = 1 then vs[0] else .tuple vs) : Sem Value)).run P w = .ok (.tuple #[v, x]) w := fun G h1 h2 => by simp [h1, h2]
    unfold results
    rw [hr]
    exact key (fun r => match r with | .tmp t => (pure (tmps.getD t undef) : Sem Value) | .cell a t => do loadVar t (← asAddr (tmps.getD a undef))) h1 k1
theorem ret3 (hI : c.I = I) (hr : fn.results = #[r, s, q]) (h : RV P g E r X) (k : RV P g E s Y) (l : RV P g E q Z) (hX : (T.tup [X, Y, Z]).le R) (hE : SubE (somes Eo) E) (hok : retOk I Eo N R = true := by kernel_rfl) (hdf : c.df = [] := by rfl) : PN c n (bodyPost P fn (Back c Eo N R) .ret) g E :=
  ret_any hI hok hE hX (hdf := hdf) fun β u w F tmps hs ht hH => by
    obtain ⟨v, h1, h2⟩ := h β u w F tmps hs ht hH
    obtain ⟨x, k1, k2⟩ := k β u w F tmps hs ht hH
    obtain ⟨y, l1, l2⟩ := l β u w F tmps hs ht hH
    refine ⟨.tuple #[v, x, y], ?_, [v, x, y], rfl, h2, k2, l2, trivial⟩
    have key : ∀ G : ResultVar → Sem Value, (G r).run P w = .ok v w → (G s).run P w = .ok x w → (G q).run P w = .ok y w → ((do let vs ← #[r, s, q].mapM G; pure (if h : vs.size = 1 then vs[0] else .tuple vs) : Sem Value)).run P w = .ok (.tuple #[v, x, y]) w := fun G h1 h2 h3 => by simp [h1, h2, h3]
    unfold results
    rw [hr]
    exact key (fun r => match r with | .tmp t => (pure (tmps.getD t undef) : Sem Value) | .cell a t => do loadVar t (← asAddr (tmps.getD a undef))) h1 k1 l1
end

/-! ### steps -/
section
variable {P : Program} {ops : Array Oper} {fin : List OpS → List (Nat × T) → List (Nat × Option Ent) → Prop} {r : List Oper} {H : List OpS} {g : List (Nat × T)} {E : List (Nat × Option Ent)} {o : Oper}
def OpS.p (X : T) : OpS := ⟨[], [], [], [], X⟩
theorem gd0 (h : o.guard = none := by rfl) : GuardIs ops g o true := .inl ⟨h, rfl⟩
theorem gd1 {q : Nat} {b : Bool} {t : Nat} (h : o.guard = some (q, b) := by rfl) (h2 : (ops[q]?).bind (·.dst) = some t := by rfl) (h3 : lk g t = some (T.c (.bool b)) := by rfl) : GuardIs ops g o true := .inr (.inl ⟨q, b, t, b, h, h2, h3, by simp⟩)
/-- A value, without a look at one's own memory. -/
theorem j_val {X : T} (hg : GuardIs ops g o true) (h : OpOk P o (envl g) (fun _ => none) (OpS.p X)) (hn : J P ops fin r (OpS.p X :: H) (putg o.dst X g) E) : J P ops fin (o :: r) H g E :=
  ⟨OpS.p X, E, .inl ⟨hg, fun e he => absurd he List.not_mem_nil, by
    have : (fun e => if e ∈ (OpS.p X).uses ++ (OpS.p X).cons then lkE E e else none) = fun _ => none := funext fun e => if_neg List.not_mem_nil
    rw [this]; exact h⟩, fun f => rfl, hn⟩
/-- An operation that is left out. -/
theorem j_off {q : Nat} {b e : Bool} {t : Nat} (h : o.guard = some (q, b)) (h2 : (ops[q]?).bind (·.dst) = some t) (h3 : lk g t = some (T.c (.bool e))) (hne : (e == b) = false) (hn : J P ops fin r (OpS.idle :: H) (putg o.dst (T.c undef) g) E) : J P ops fin (o :: r) H g E :=
  ⟨OpS.idle, E, .inr ⟨.inr (.inl ⟨q, b, t, e, h, h2, h3, hne.symm⟩), rfl⟩, fun f => rfl, hn⟩
/-- An operation that is left out since what it hangs on was left out. -/
theorem j_ofu {q : Nat} {b : Bool} {t : Nat} (h : o.guard = some (q, b)) (h2 : (ops[q]?).bind (·.dst) = some t) (h3 : lk g t = some (T.c undef)) (hn : J P ops fin r (OpS.idle :: H) (putg o.dst (T.c undef) g) E) : J P ops fin (o :: r) H g E :=
  ⟨OpS.idle, E, .inr ⟨.inr (.inr ⟨rfl, q, b, t, h, h2, h3⟩), rfl⟩, fun f => rfl, hn⟩
theorem after_pure {β : Env} {u w : World} {F : FP} {X : T} {v : Value} (hs : Sub u w) (h : X.rep β u v) : After β u w F [] (lk []) [] X v w :=
  ⟨u, β, F, fun _ _ => rfl, Tr.refl hs, Hold.none _ _ _ _, (fun e X k h => by cases h), h⟩
/-- A value that hangs on the operands alone. -/
theorem ok_pure {X : T} {A : Nat → Option Ent} {env : Operand → Option T} (h : ∀ ρ β u w F, Sub u w → (∀ x ∈ o.op.operands, ∀ Y, env x = some Y → Y.rep β u (ρ x)) → Hold β u w F A → ∃ v, (execOp ρ o).run P w = .ok (.value v) w ∧ X.rep β u v) : OpOk P o env A (OpS.p X) := fun ρ β u w F hs he hH => by
  obtain ⟨v, h1, h2⟩ := h ρ β u w F hs he hH
  unfold Res
  rw [h1]
  exact after_pure hs h2
end
end Go.Proofs.YtekghdfbhbhigaaGreat.V
/- A logic of calls: structs, boxes of one's own, plain operations. -/
set_option linter.unusedVariables false
set_option linter.unusedSimpArgs false
namespace Go.Proofs.YtekghdfbhbhigaaGreat.V
open Go.RowKit

abbrev pt (b o : Nat) : Value := .pointer (some ⟨b, o, none⟩)
theorem add_none (p o j : Nat) : (⟨p, o, none⟩ : Addr).add j = ⟨p, o + j, none⟩ := by unfold Addr.add; split <;> simp_all
/-- Cells that say these things, one behind another. -/
def Cells (β : Env) (u : World) : List T → List Value → Prop
  | [], cs => cs = []
  | X :: r, cs => ∃ v rest, X.sz ≠ 0 ∧ X.rep β u v ∧ cs = v.cells.toList ++ rest ∧ Cells β u r rest
theorem Cells.mono {β : Env} {u u' : World} (hs : Sub u u') : ∀ {l : List T} {cs : List Value}, Cells β u l cs → Cells β u' l cs
  | [], _, h => h
  | X :: r, cs, ⟨v, rest, h0, h1, e, h2⟩ => ⟨v, rest, h0, X.mono hs h1, e, Cells.mono hs h2⟩
theorem Cells.ext {β β' : Env} {u : World} : ∀ {l : List T} {cs : List Value}, (∀ e ∈ l.flatMap (·.ns), β' e = β e) → Cells β u l cs → Cells β' u l cs
  | [], _, _, h => h
  | X :: r, cs, hn, ⟨v, rest, h0, h1, e, h2⟩ => ⟨v, rest, h0, X.ext (fun e he => hn e (by simp only [List.flatMap_cons, List.mem_append]; exact .inl he)) h1, e, Cells.ext (fun e he => hn e (by simp only [List.flatMap_cons, List.mem_append]; exact .inr he)) h2⟩
def szs : List T → Nat
  | [] => 0
  | X :: r => X.sz + szs r
theorem Cells.flat {β : Env} {u : World} : ∀ {l : List T} {cs : List Value}, Cells β u l cs → cs.length = szs l ∧ cs.all Value.oneCell' = true
  | [], cs, h => by rw [show cs = [] from h]; exact ⟨rfl, rfl⟩
  | X :: r, cs, ⟨v, rest, h0, h1, e, h2⟩ => by
    obtain ⟨⟨k1, k2⟩, _⟩ := X.shp h1 h0
    obtain ⟨l1, l2⟩ := Cells.flat h2
    subst e
    exact ⟨by rw [List.length_append, k1, l1]; rfl, by rw [List.all_append, k2, l2]; rfl⟩
/-- A struct. -/
def T.st (l : List T) : T := ⟨l.flatMap (·.ns), szs l, true, fun β u v => ∃ cs : List Value, v = .agg cs.toArray ∧ Cells β u l cs, fun ⟨cs, e, h⟩ _ => by
    subst e
    obtain ⟨h1, h2⟩ := h.flat
    exact ⟨⟨by simpa [Value.cells] using h1, by simpa [Value.cells] using h2⟩, by simp [asVal, Value.cells]⟩,
  fun hs ⟨cs, e, h⟩ => ⟨cs, e, h.mono hs⟩, fun hn ⟨cs, e, h⟩ => ⟨cs, e, h.ext hn⟩⟩
def skip : List T → Nat → Option (List T)
  | [], 0 => some []
  | [], _ + 1 => none
  | X :: r, 0 => some (X :: r)
  | X :: r, n + 1 => bif Nat.ble X.sz (n + 1) then skip r (n + 1 - X.sz) else none
def takeC : List T → Nat → Option (List T)
  | [], 0 => some []
  | [], _ + 1 => none
  | _ :: _, 0 => some []
  | X :: r, n + 1 => bif Nat.ble X.sz (n + 1) then (match takeC r (n + 1 - X.sz) with | some l => some (X :: l) | none => none) else none
def oneT (b : Bool) : Option (List T) → Option T
  | some [X] => bif X.ag == b then some X else bif b then some (T.st [X]) else none
  | some l => bif b then some (T.st l) else none
  | none => none
/-- A field: so many cells from a place on. -/
def fieldT (b : Bool) (l : List T) (off m : Nat) : Option T := match skip l off with
  | some r => oneT b (takeC r m)
  | none => none
def putC : List T → Nat → T → Option (List T)
  | [], _, _ => none
  | Y :: r, 0, X => match skip (Y :: r) X.sz with | some s => some (X :: s) | none => none
  | Y :: r, n + 1, X => bif Nat.ble Y.sz (n + 1) then (match putC r (n + 1 - Y.sz) X with | some s => some (Y :: s) | none => none) else none
theorem drop_behind {a b : List Value} {m n : Nat} (h : a.length = m) (hn : m ≤ n) : (a ++ b).drop n = b.drop (n - m) := by rw [List.drop_append, h, List.drop_eq_nil_of_le (by omega)]; rfl
theorem Cells.skip {β : Env} {u : World} : ∀ {l r : List T} {off : Nat} {cs : List Value}, Cells β u l cs → V.skip l off = some r → off ≤ cs.length ∧ Cells β u r (cs.drop off)
  | [], r, 0, cs, h, hs => by cases hs; exact ⟨Nat.zero_le _, by rw [show cs = [] from h]; rfl⟩
  | X :: l, r, 0, cs, h, hs => by cases hs; exact ⟨Nat.zero_le _, h⟩
  | X :: l, r, n + 1, cs, ⟨v, rest, h0, h1, e, h2⟩, hs => by
    unfold V.skip at hs
    cases hb : Nat.ble X.sz (n + 1) with
    | false => rw [hb] at hs; cases hs
    | true =>
      rw [hb] at hs
      have hle := Nat.le_of_ble_eq_true hb
      obtain ⟨k1, k2⟩ := Cells.skip h2 hs
      have hl := (X.shp h1 h0).1.1
      subst e
      refine ⟨by rw [List.length_append, hl]; omega, ?_⟩
      rw [drop_behind hl hle]
      exact k2
  | [], _, _ + 1, _, _, hs => by cases hs
theorem Cells.take {β : Env} {u : World} : ∀ {l r : List T} {m : Nat} {cs : List Value}, Cells β u l cs → takeC l m = some r → m ≤ cs.length ∧ Cells β u r (cs.take m)
  | [], r, 0, cs, h, hs => by cases hs; exact ⟨Nat.zero_le _, rfl⟩
  | X :: l, r, 0, cs, h, hs => by cases hs; exact ⟨Nat.zero_le _, rfl⟩
  | X :: l, r, n + 1, cs, ⟨v, rest, h0, h1, e, h2⟩, hs => by
    unfold takeC at hs
    cases hb : Nat.ble X.sz (n + 1) with
    | false => rw [hb] at hs; cases hs
    | true =>
      rw [hb] at hs
      have hle := Nat.le_of_ble_eq_true hb
      cases ht : takeC l (n + 1 - X.sz) with
      | none => rw [ht] at hs; cases hs
      | some s =>
        rw [ht] at hs
        cases hs
        obtain ⟨k1, k2⟩ := Cells.take h2 ht
        have hl := (X.shp h1 h0).1.1
        subst e
        refine ⟨by rw [List.length_append, hl]; omega, v, rest.take (n + 1 - X.sz), h0, h1, ?_, k2⟩
        rw [List.take_append, hl, List.take_of_length_le (by omega)]
  | [], _, _ + 1, _, _, hs => by cases hs
theorem Cells.field {β : Env} {u : World} {b : Bool} {l : List T} {off m : Nat} {X : T} {cs : List Value} (h : Cells β u l cs) (hX : fieldT b l off m = some X) : off + m ≤ cs.length ∧ X.rep β u (asVal b ((cs.drop off).take m)) := by
  unfold fieldT at hX
  cases hs : V.skip l off with
  | none => rw [hs] at hX; cases hX
  | some r =>
    rw [hs] at hX
    obtain ⟨h1, h2⟩ := h.skip hs
    simp only at hX
    cases ht : takeC r m with
    | none => rw [ht] at hX; cases hX
    | some s =>
      rw [ht] at hX
      obtain ⟨h3, h4⟩ := h2.take ht
      rw [List.length_drop] at h3
      refine ⟨by omega, ?_⟩
      have many : (bif b then some (T.st s) else none) = some X → X.rep β u (asVal b ((cs.drop off).take m)) := fun hb => by
        cases b with
        | false => cases hb
        | true => cases hb; exact ⟨_, rfl, h4⟩
      match s, hX, h4, many with
      | [Y], hX, ⟨v, rest, k0, k1, ke, k2⟩, many =>
        have hX : (bif Y.ag == b then some Y else bif b then some (T.st [Y]) else none) = some X := hX
        cases hy : Y.ag == b with
        | true =>
          rw [hy] at hX
          cases hX
          have hyb : X.ag = b := by simpa using hy
          rw [ke, show rest = [] from k2, List.append_nil, ← hyb, ← (X.shp k1 k0).2]
          exact k1
        | false => rw [hy] at hX; exact many hX
      | [], hX, _, many => exact many hX
      | _ :: _ :: _, hX, _, many => exact many hX
def patch (cs : List Value) (off : Nat) (vs : List Value) : List Value := cs.take off ++ vs ++ cs.drop (off + vs.length)
theorem Cells.put {β : Env} {u : World} {X : T} {v : Value} (hv : X.rep β u v) (h0 : X.sz ≠ 0) : ∀ {l l' : List T} {off : Nat} {cs : List Value}, Cells β u l cs → putC l off X = some l' → off + X.sz ≤ cs.length ∧ Cells β u l' (patch cs off v.cells.toList)
  | [], _, _, _, _, hp => by cases hp
  | Y :: r, l', 0, cs, h, hp => by
    unfold putC at hp
    have hl := (X.shp hv h0).1.1
    cases hs : V.skip (Y :: r) X.sz with
    | none => rw [hs] at hp; cases hp
    | some s =>
      rw [hs] at hp
      cases hp
      obtain ⟨k1, k2⟩ := h.skip hs
      refine ⟨by omega, v, cs.drop X.sz, h0, hv, ?_, k2⟩
      unfold patch
      rw [List.take_zero, List.nil_append, Nat.zero_add, hl]
  | Y :: r, l', n + 1, cs, ⟨y, rest, k0, k1, e, k2⟩, hp => by
    unfold putC at hp
    have hl := (X.shp hv h0).1.1
    cases hb : Nat.ble Y.sz (n + 1) with
    | false => rw [hb] at hp; cases hp
    | true =>
      rw [hb] at hp
      have hle := Nat.le_of_ble_eq_true hb
      cases hs : putC r (n + 1 - Y.sz) X with
      | none => rw [hs] at hp; cases hp
      | some s =>
        rw [hs] at hp
        cases hp
        obtain ⟨m1, m2⟩ := Cells.put hv h0 k2 hs
        have hy := (Y.shp k1 k0).1.1
        subst e
        refine ⟨by rw [List.length_append, hy]; omega, y, _, k0, k1, ?_, m2⟩
        unfold patch
        rw [List.take_append, hy, List.take_of_length_le (by omega), List.drop_append, hy, List.drop_eq_nil_of_le (by omega), List.nil_append, List.append_assoc, List.append_assoc, List.append_assoc]
        congr 4
        omega

/-- A box of one's own. -/
def Ent.box (ty : TypeId) (l : List T) : Ent := ⟨l.flatMap (·.ns), fun β u w v F => ∃ b cs, v = pt b 0 ∧ (∀ k, F k ↔ k = b) ∧ w.heap[b]? = some (.cells (List.toArray cs) ty (0, 0)) ∧ Cells β u l cs,
  fun hs ⟨b, cs, h1, h2, h3, h4⟩ => ⟨b, cs, h1, h2, h3, h4.mono hs⟩, fun hn ⟨b, cs, h1, h2, h3, h4⟩ => ⟨b, cs, h1, h2, h3, h4.ext hn⟩, fun hl ⟨b, cs, h1, h2, h3, h4⟩ => ⟨b, cs, h1, h2, by rw [hl b ((h2 b).2 rfl)]; exact h3, h4⟩⟩
/-- A place in it. -/
def T.p (e off : Nat) : T := ⟨[e], 1, false, fun β u v => ∃ b, β e = pt b 0 ∧ v = pt b off, fun ⟨b, _, h⟩ _ => by subst h; exact ⟨⟨rfl, rfl⟩, rfl⟩, fun _ h => h, fun hn ⟨b, h1, h2⟩ => ⟨b, by rw [hn _ List.mem_cons_self]; exact h1, h2⟩⟩
theorem cell_none {w : World} {a : Addr} (h : w.heap.size ≤ a.block) : w.cell? a = none := by
  unfold World.cell?
  rw [Array.getElem?_eq_none h]
theorem sub_lt {u w : World} (h : Sub u w) {p : Addr} {v : Value} (hv : u.cell? p = some v) : p.block < w.heap.size := by
  apply Nat.lt_of_not_le
  intro hle
  have := h p v hv
  rw [cell_none hle] at this
  cases this
theorem dead_new {u w : World} (h : Sub u w) {p : Nat} (hp : w.heap.size ≤ p) : Dead u p := fun a ha => by
  cases hc : u.cell? a with
  | none => rfl
  | some v => have := sub_lt h hc; omega
theorem heap_lt {w : World} {g : Nat} {o : Obj} (h : w.heap[g]? = some o) : g < w.heap.size := (Array.getElem?_eq_some_iff.1 h).1
theorem tr_alloc {C : Nat → Prop} {u w : World} (hs : Sub u w) (o : Obj) : Tr C u w u (w.alloc o) :=
  ⟨rfl, rfl, rfl, by simp, fun k hk _ => Below.heap_alloc _ _ _ hk, Sub.refl _, fun a v hv => by rw [World.cell?_alloc_lt _ _ _ (sub_lt hs hv)]; exact hs a v hv, fun _ _ _ h => h⟩
def setE (β : Env) (e : Nat) (v : Value) : Env := fun f => if f = e then v else β f
theorem setE_same (β : Env) (e : Nat) (v : Value) : setE β e v e = v := if_pos rfl
theorem setE_ne (β : Env) {e f : Nat} (v : Value) (h : f ≠ e) : setE β e v f = β f := if_neg h
theorem lk1 {e f : Nat} {X Y : Ent} (h : lk [(e, X)] f = some Y) : f = e ∧ Y = X := by
  rw [lk_cons] at h
  split at h
  · rename_i he; cases h; exact ⟨he.symm, rfl⟩
  · cases h
theorem lk1_same {e : Nat} {X : Ent} : lk [(e, X)] e = some X := by rw [lk_cons, if_pos rfl]
theorem hold1 {β : Env} {u w : World} {F : FP} {e : Nat} {X : Ent} (h : X.hold β u w (β e) (F e)) (hd : ∀ k, F e k → Dead u k ∧ k < w.heap.size) : Hold β u w F (lk [(e, X)]) :=
  ⟨fun f Y h' => by obtain ⟨rfl, rfl⟩ := lk1 h'; exact h, fun f Y k h' hk => by obtain ⟨rfl, rfl⟩ := lk1 h'; exact hd k hk, fun f f' Y Z k h' h2 hne => by obtain ⟨rfl, _⟩ := lk1 h'; obtain ⟨rfl, _⟩ := lk1 h2; exact absurd rfl hne⟩
/-- A new box. -/
theorem after_box {β : Env} {u w : World} {F : FP} {C : List Nat} {e : Nat} {ty : TypeId} {l : List T} {cs : List Value} (hs : Sub u w) (hc : Cells β u l cs) (hn : (l.flatMap (·.ns)).contains e = false) :
    After β u w F C (lk [(e, Ent.box ty l)]) [e] (T.p e 0) (pt w.heap.size 0) (w.alloc (.cells cs.toArray ty (0, 0))) := by
  have hb : ∀ f, f ∉ [e] → setE β e (pt w.heap.size 0) f = β f := fun f hf => setE_ne β _ (by simpa using hf)
  refine ⟨u, setE β e (pt w.heap.size 0), fun _ k => k = w.heap.size, hb, tr_alloc hs _, hold1 ?_ (fun k hk => ?_), fun f X k h hk => .inr (by rw [show k = _ from hk]; exact Nat.le_refl _), ⟨w.heap.size, setE_same _ _ _, rfl⟩⟩
  · refine ⟨w.heap.size, cs, setE_same _ _ _, fun k => Iff.rfl, ?_, hc.ext (fun f hf => hb f (fun he => ?_))⟩
    · show (w.heap.push _)[w.heap.size]? = _
      rw [Array.getElem?_push, if_pos rfl]
    · have : f = e := by simpa using he
      subst this
      simp only [List.contains_eq_mem, decide_eq_false_iff_not] at hn
      exact hn hf
  · rw [show k = _ from hk]
    exact ⟨dead_new hs (Nat.le_refl _), by simp⟩

/-! ### types -/
def aggOf : TypeDesc → Bool
  | .struct _ | .array _ _ => true
  | _ => false
/-- A type: of several cells? of how many? -/
def Ty (P : Program) (ty : TypeId) (b : Bool) (m : Nat) : Prop := (P.underlying ty).map aggOf = some b ∧ (P.info? ty).map (·.size) = some m
theorem run_isAgg {P : Program} {ty : TypeId} {b : Bool} {m : Nat} (h : Ty P ty b m) (w : World) : (isAgg ty).run P w = .ok b w := by
  obtain ⟨d, h1, h2⟩ := Option.map_eq_some_iff.1 h.1
  unfold isAgg
  rw [Sem.run_bind, run_underlying h1 w]
  subst h2
  cases d <;> simp [aggOf]
theorem run_sizeOf {P : Program} {ty : TypeId} {b : Bool} {m : Nat} (h : Ty P ty b m) (w : World) : (sizeOf ty).run P w = .ok m w := by
  obtain ⟨d, h1, h2⟩ := Option.map_eq_some_iff.1 h.2
  simp [sizeOf, typeInfo, h1, h2]
theorem run_loadAt {P : Program} {ty : TypeId} {b : Bool} {ad : Addr} {vs : List Value} {w : World} (h : Ty P ty b vs.length) (hc : ∀ j v, vs[j]? = some v → w.cell? (ad.add j) = some v) (h1 : b = false → vs.length = 1) :
    (loadVar ty ad).run P w = .ok (asVal b vs) w := by
  have hl := run_loadCells_list (P := P) w ad vs hc
  unfold loadVar
  rw [Sem.run_bind, run_isAgg h, Result.andThen_ok]
  cases b with
  | true => simp [run_sizeOf h, hl, asVal]
  | false =>
    have h2 := h1 rfl
    match vs, h2, hc with
    | [v], _, hc =>
      have := hc 0 v (by simp)
      have e : ad.add 0 = ad := by unfold Addr.add; split <;> simp_all
      rw [e] at this
      simp [asVal, this]
theorem box_cells {w : World} {p o : Nat} {cs : List Value} {t : TypeId} (hb : w.heap[p]? = some (.cells cs.toArray t (0, 0))) (m : Nat) : ∀ j v, ((cs.drop o).take m)[j]? = some v → w.cell? ((⟨p, o, none⟩ : Addr).add j) = some v := fun j v hv => by
  rw [add_none, cell_of_row w p (o + j) _ t _ hb]
  simp only [List.getElem?_take, List.getElem?_drop] at hv
  split at hv
  · simpa using hv
  · cases hv
theorem ty_one {P : Program} {ty : TypeId} {b : Bool} {m : Nat} (hT : Ty P ty b m) (h1 : (b || m == 1) = true) : b = false → m = 1 := fun e => by subst e; simpa using h1

/-! ### steps -/
section
variable {P : Program} {ops : Array Oper} {fin : List OpS → List (Nat × T) → List (Nat × Option Ent) → Prop} {r : List Oper} {H : List OpS} {g : List (Nat × T)} {E : List (Nat × Option Ent)} {o : Oper}
theorem upd_cons {e : Nat} {X : Ent} {us cs nw : List Nat} {R : T} (hc : ∀ c ∈ cs, c = e) (f : Nat) : lkE ((e, some X) :: E) f = (OpS.mk us cs [(e, X)] nw R).upd f (lkE E f) := by
  unfold lkE OpS.upd
  rw [lk_cons, lk_cons]
  by_cases h : e = f
  · rw [if_pos h, if_pos h]; rfl
  · rw [if_neg h, if_neg h]
    show _ = if cs.contains f then none else _
    rw [if_neg]
    simp only [List.contains_eq_mem, decide_eq_true_eq]
    exact fun hm => h (hc f hm).symm
/-- New memory. -/
theorem j_new {e : Nat} {X : Ent} {R : T} (hg : GuardIs ops g o true) (h : OpOk P o (envl g) (fun _ => none) ⟨[], [], [(e, X)], [e], R⟩) (hn : J P ops fin r (⟨[], [], [(e, X)], [e], R⟩ :: H) (putg o.dst R g) ((e, some X) :: E)) : J P ops fin (o :: r) H g E :=
  ⟨⟨[], [], [(e, X)], [e], R⟩, (e, some X) :: E, .inl ⟨hg, fun e he => absurd he List.not_mem_nil, by
    have : (fun f => if f ∈ (OpS.mk [] [] [(e, X)] [e] R).uses ++ (OpS.mk [] [] [(e, X)] [e] R).cons then lkE E f else none) = fun _ => none := funext fun f => if_neg List.not_mem_nil
    rw [this]; exact h⟩, upd_cons (fun c hc => absurd hc List.not_mem_nil), hn⟩
/-- Memory is looked at. -/
theorem j_use {e : Nat} {X : Ent} {R : T} (hX : lkE E e = some X) (hg : GuardIs ops g o true) (h : OpOk P o (envl g) (lk [(e, X)]) ⟨[e], [], [], [], R⟩) (hn : J P ops fin r (⟨[e], [], [], [], R⟩ :: H) (putg o.dst R g) E) : J P ops fin (o :: r) H g E :=
  ⟨⟨[e], [], [], [], R⟩, E, .inl ⟨hg, fun e he => absurd he List.not_mem_nil, by
    have : (fun f => if f ∈ (OpS.mk [e] [] [] [] R).uses ++ (OpS.mk [e] [] [] [] R).cons then lkE E f else none) = lk [(e, X)] := funext fun f => by
      rw [lk_cons]
      by_cases h : e = f
      · subst h; rw [if_pos (by simp), if_pos rfl, hX]
      · rw [if_neg (by simp; exact fun h' => h h'.symm), if_neg h]; rfl
    rw [this]; exact h⟩, fun f => rfl, hn⟩
/-- Memory is written to. -/
theorem j_set {e : Nat} {X Y : Ent} {R : T} (hX : lkE E e = some X) (hg : GuardIs ops g o true) (h : OpOk P o (envl g) (lk [(e, X)]) ⟨[], [e], [(e, Y)], [], R⟩) (hn : J P ops fin r (⟨[], [e], [(e, Y)], [], R⟩ :: H) (putg o.dst R g) ((e, some Y) :: E)) : J P ops fin (o :: r) H g E :=
  ⟨⟨[], [e], [(e, Y)], [], R⟩, (e, some Y) :: E, .inl ⟨hg, fun f he => ⟨X, by rw [show f = e from by simpa using he]; exact hX⟩, by
    have : (fun f => if f ∈ (OpS.mk [] [e] [(e, Y)] [] R).uses ++ (OpS.mk [] [e] [(e, Y)] [] R).cons then lkE E f else none) = lk [(e, X)] := funext fun f => by
      rw [lk_cons]
      by_cases h : e = f
      · subst h; rw [if_pos (by simp), if_pos rfl, hX]
      · rw [if_neg (by simp; exact fun h' => h h'.symm), if_neg h]; rfl
    rw [this]; exact h⟩, upd_cons (fun c hc => by simpa using hc), hn⟩
variable {t : Option Nat} {ty : TypeId} {ps : String} {af : Array Edge} {gd : Option (Nat × Bool)} {x y : Operand} {X Y : T} {e off m : Nat} {b : Bool} {l l' : List T} {et : TypeId}
/-- move, assign: the same thing. -/
theorem mv (hX : envl g x = some X) (hn : J P ops fin r (OpS.p X :: H) (putg t X g) E) (hg : GuardIs ops g ⟨t, .move x, ty, ps, af, gd⟩ true := by exact gd0) : J P ops fin (⟨t, .move x, ty, ps, af, gd⟩ :: r) H g E :=
  j_val hg (ok_pure fun ρ β u w F hs he hH => ⟨ρ x, rfl, he x (by simp [Op.operands]) X hX⟩) hn
theorem asg (hX : envl g x = some X) (hn : J P ops fin r (OpS.p X :: H) (putg t X g) E) (hg : GuardIs ops g ⟨t, .assign x, ty, ps, af, gd⟩ true := by exact gd0) : J P ops fin (⟨t, .assign x, ty, ps, af, gd⟩ :: r) H g E :=
  j_val hg (ok_pure fun ρ β u w F hs he hH => ⟨ρ x, rfl, he x (by simp [Op.operands]) X hX⟩) hn
/-- A type's nought. -/
def Zero (P : Program) (ty : TypeId) (l : List T) : Prop := ∃ zs, (∀ w, (Instr.alloc ty true (.tuple #[])).run P w = .ok (pt w.heap.size 0) (w.alloc (.cells (List.toArray zs) ty (0, 0)))) ∧ ∀ β u, Cells β u l zs
theorem nw (e : Nat) (hz : Zero P et l) (hn : J P ops fin r (⟨[], [], [(e, Ent.box et l)], [e], T.p e 0⟩ :: H) (putg t (T.p e 0) g) ((e, some (Ent.box et l)) :: E)) (he : (l.flatMap (·.ns)).contains e = false := by rfl) (hg : GuardIs ops g ⟨t, .alloc et, ty, ps, af, gd⟩ true := by exact gd0) : J P ops fin (⟨t, .alloc et, ty, ps, af, gd⟩ :: r) H g E :=
  j_new hg (fun ρ β u w F hs hx hH => by
    obtain ⟨zs, h1, h2⟩ := hz
    unfold Res
    simp only [execOp, Sem.run_bind, h1, Result.andThen_ok, Sem.run_pure]
    exact after_box hs (h2 β u) he) hn
/-- A box with a value. -/
theorem bx (e : Nat) (hX : envl g x = some X) (hn : J P ops fin r (⟨[], [], [(e, Ent.box et [X])], [e], T.p e 0⟩ :: H) (putg t (T.p e 0) g) ((e, some (Ent.box et [X])) :: E)) (he : ([X].flatMap (·.ns)).contains e = false := by rfl) (h0 : Nat.beq X.sz 0 = false := by rfl) (hg : GuardIs ops g ⟨t, .box et x, ty, ps, af, gd⟩ true := by exact gd0) : J P ops fin (⟨t, .box et x, ty, ps, af, gd⟩ :: r) H g E :=
  j_new hg (fun ρ β u w F hs hx hH => by
    have hr := hx x (by simp [Op.operands]) X hX
    have h0' : X.sz ≠ 0 := fun h => by rw [h] at h0; cases h0
    have := after_box (C := []) (F := F) (e := e) (ty := et) (cs := (ρ x).cells.toList) hs (l := [X]) ⟨ρ x, [], h0', hr, (List.append_nil _).symm, rfl⟩ he
    unfold Res
    have hb : (Instr.box et (ρ x)).run P w = .ok (pt w.heap.size 0) (w.alloc (.cells (ρ x).cells et (0, 0))) := by simp [Instr.box, newVar, newRow]
    simp only [execOp, Sem.run_bind, hb, Result.andThen_ok, Sem.run_pure]
    simpa using this) hn
/-- A load out of a box. -/
theorem ld (hX : envl g x = some (T.p e off)) (hE : lkE E e = some (Ent.box et l)) {ty' : TypeId} (hT : Ty P ty' b m) (hF : fieldT b l off m = some X) (hn : J P ops fin r (⟨[e], [], [], [], X⟩ :: H) (putg t X g) E) (h1 : (b || m == 1) = true := by rfl) (hg : GuardIs ops g ⟨t, .load ty' x, ty, ps, af, gd⟩ true := by exact gd0) : J P ops fin (⟨t, .load ty' x, ty, ps, af, gd⟩ :: r) H g E :=
  j_use hE hg (fun ρ β u w F hs he hH => by
    obtain ⟨p, k1, k2⟩ := he x (by simp [Op.operands]) _ hX
    obtain ⟨p', cs, q1, q2, q3, q4⟩ := hH.hold e _ lk1_same
    have hpp : p' = p := by rw [k1] at q1; cases q1; rfl
    subst hpp
    obtain ⟨c1, c2⟩ := q4.field hF
    have hlen : ((cs.drop off).take m).length = m := by rw [List.length_take, List.length_drop]; omega
    have := run_loadAt (P := P) (w := w) (ad := ⟨p', off, none⟩) (vs := (cs.drop off).take m) (by rw [hlen]; exact hT) (box_cells q3 m) (by rw [hlen]; exact ty_one hT h1)
    unfold Res
    simp only [execOp, k2, Instr.loadAt, Instr.sureAddr, Sem.run_bind, Result.andThen_ok, Sem.run_pure, this]
    exact after_pure hs c2) hn
theorem run_store {w : World} {p off : Nat} {cs : List Value} {t : TypeId} {v : Value} {ty' : TypeId} (hb : w.heap[p]? = some (.cells cs.toArray t (0, 0))) (hT : Ty P ty' b m) (hv : Flat v m) (hr : off + m ≤ cs.length) : (Instr.storeAt ty' (pt p off) v).run P w = .ok () (w.setRow p (patch cs off v.cells.toList).toArray) := by
  obtain ⟨hl, h1⟩ := hv
  have := run_storeCells_at P p off t v.cells.toList 0 cs.toArray w hb (by simpa [hl] using hr) (fun u hu => List.all_eq_true.1 h1 u hu)
  have hs : v.cells.size = m := by simpa using hl
  simp only [Nat.add_zero] at this
  simp [Instr.storeAt, Instr.sureAddr, storeVar, run_sizeOf hT, hs, this, patch]
theorem tr_setRow {C : Nat → Prop} {u w : World} {p : Nat} {cs : Array Value} (hs : Sub u w) (hC : C p) (hd : Dead u p) : Tr C u w u (w.setRow p cs) :=
  ⟨rfl, rfl, rfl, by simp, fun k hk hc => setRow_other _ _ _ _ (fun e => hc (e ▸ hC)), Sub.refl _, (fun a v hv => by
    rw [cell_setRow_other]
    · exact hs a v hv
    · intro e; rw [hd a e] at hv; cases hv), fun _ _ _ h => h⟩
/-- A store into a box. -/
theorem st (hX : envl g x = some (T.p e off)) (hY : envl g y = some Y) (hE : lkE E e = some (Ent.box et l)) {ty' : TypeId} (hT : Ty P ty' b m) (hl : putC l off Y = some l') (hn : J P ops fin r (⟨[], [e], [(e, Ent.box et l')], [], T.c undef⟩ :: H) (putg t (T.c undef) g) ((e, some (Ent.box et l')) :: E)) (hm : Y.sz = m := by rfl) (h0 : Nat.beq m 0 = false := by rfl) (hg : GuardIs ops g ⟨t, .store ty' x y, ty, ps, af, gd⟩ true := by exact gd0) : J P ops fin (⟨t, .store ty' x y, ty, ps, af, gd⟩ :: r) H g E :=
  j_set hE hg (fun ρ β u w F hs he hH => by
    obtain ⟨p, k1, k2⟩ := he x (by simp [Op.operands]) _ hX
    have hy := he y (by simp [Op.operands]) _ hY
    obtain ⟨p', cs, q1, q2, q3, q4⟩ := hH.hold e _ lk1_same
    have hpp : p' = p := by rw [k1] at q1; cases q1; rfl
    subst hpp
    have h0' : Y.sz ≠ 0 := by rw [hm]; intro e; subst e; cases h0
    obtain ⟨c1, c2⟩ := q4.put hy h0' hl
    have hf := (Y.shp hy h0').1
    rw [hm] at hf c1
    have hd := (hH.dead e _ p' lk1_same ((q2 p').2 rfl)).1
    unfold Res
    simp only [execOp, k2, Sem.run_bind, run_store q3 hT hf c1, Result.andThen_ok, Sem.run_pure]
    refine ⟨u, β, F, fun _ _ => rfl, tr_setRow hs ⟨e, List.mem_cons_self, (q2 p').2 rfl⟩ hd, hold1 ⟨p', _, q1, q2, setRow_heap _ _ _ _ _ _ q3, c2⟩ (fun k hk => ?_), fun f Z k h hk => .inl ⟨e, List.mem_cons_self, ?_⟩, rfl⟩
    · rw [(q2 k).1 hk]; exact ⟨hd, by simpa using heap_lt q3⟩
    · obtain ⟨rfl, _⟩ := lk1 h; exact hk) hn
/-- Out of a tuple. -/
theorem ex {k : Nat} {As : List T} (hX : envl g x = some (T.tup As)) (hk : As[k]? = some X) (hn : J P ops fin r (OpS.p X :: H) (putg t X g) E) (hg : GuardIs ops g ⟨t, .extract x k, ty, ps, af, gd⟩ true := by exact gd0) : J P ops fin (⟨t, .extract x k, ty, ps, af, gd⟩ :: r) H g E :=
  j_val hg (ok_pure fun ρ β u w F hs he hH => by
    obtain ⟨vs, h1, h2⟩ := he x (by simp [Op.operands]) _ hX
    obtain ⟨v, h3, h4⟩ := h2.at hk
    exact ⟨v, by simp [execOp, h1, Instr.extract, h3], h4⟩) hn
/-- What a struct is made of. -/
class Sp (X : T) (l : outParam (List T)) : Prop where le : X.le (T.st l)
instance (l : List T) : Sp (T.st l) l := ⟨.refl _⟩
/-- A call of a function. -/
def envs (g : List (Nat × T)) : List Operand → Option (List T)
  | [] => some []
  | x :: r => match envl g x with
    | some X => (match envs g r with | some l => some (X :: l) | none => none)
    | none => none
theorem envs_reps {β : Env} {u : World} {ρ : Operand → Value} : ∀ {xs : List Operand} {As : List T}, envs g xs = some As → (∀ x ∈ xs, ∀ Y, envl g x = some Y → Y.rep β u (ρ x)) → Reps β u As (xs.map ρ)
  | [], As, h, _ => by cases h; trivial
  | x :: r, As, h, he => by
    unfold envs at h
    cases hx : envl g x with
    | none => rw [hx] at h; cases h
    | some X =>
      rw [hx] at h
      simp only at h
      cases hr : envs g r with
      | none => rw [hr] at h; cases h
      | some l =>
        rw [hr] at h
        cases h
        exact ⟨he x List.mem_cons_self X hx, envs_reps hr (fun y hy => he y (List.mem_cons_of_mem _ hy))⟩
def Enters (P : Program) (f : FuncId) : Prop := ∀ args w, (callFunc f args).run P w = .ok (.enter f args) w
theorem cl {f : FuncId} {xs : Array Operand} {tys : Array TypeId} {As : List T} (hA : envs g xs.toList = some As) (h : Fn P f As [] [] [] X) (hn : J P ops fin r (OpS.p X :: H) (putg t X g) E) (hen : Enters P f := by intro a w; kernel_rfl)
    (hg : GuardIs ops g ⟨t, .call ⟨.value (.func f), xs, tys⟩, ty, ps, af, gd⟩ true := by exact gd0) : J P ops fin (⟨t, .call ⟨.value (.func f), xs, tys⟩, ty, ps, af, gd⟩ :: r) H g E :=
  j_val hg (fun ρ β u w F hs he hH => by
    have hf : ρ (.func f) = .func (.func f) #[] #[] := he (.func f) (show Operand.func f ∈ (#[Operand.func f] ++ xs : Array Operand) from by simp) _ rfl
    have hre := envs_reps (β := β) (u := u) (ρ := ρ) hA (fun x hx Y hY => he x (show x ∈ (#[Operand.func f] ++ xs : Array Operand) from Array.mem_append_right _ (by simpa using hx)) Y hY)
    have := h _ β u w F hs hre (Hold.none _ _ _ _)
    unfold Res
    rw [show (execOp ρ ⟨t, .call ⟨.value (.func f), xs, tys⟩, ty, ps, af, gd⟩).run P w = .ok (.enter f (xs.toList.map ρ).toArray) w from by
      simp only [execOp, resolve, hf, Deferred.ofValue, Sem.run_bind, Sem.run_pure, Result.andThen_ok, invoke, hen _ w]
      congr 2
      apply Array.ext'; simp]
    exact this) hn
end
end Go.Proofs.YtekghdfbhbhigaaGreat.V
/- A logic of calls: slices that are known for good, rows of one's own. -/
set_option linter.unusedVariables false
set_option linter.unusedSimpArgs false
namespace Go.Proofs.YtekghdfbhbhigaaGreat.V
open Go.RowKit

/-- How a kind of things is told: none of them mentions a name. -/
structure Cod (α : Type) where
  X : α → T
  sz : Nat
  dflt : α
  ns0 : ∀ a, (X a).ns = []
  sz0 : ∀ a, (X a).sz = sz
  pos : sz ≠ 0
def B0 : Env := fun _ => undef
section
variable {α : Type} {c : Cod α} {β : Env} {u u' w : World}
def Els (c : Cod α) (l : List α) (u : World) (cs : List Value) : Prop := Cells B0 u (l.map c.X) cs
theorem Cod.any (c : Cod α) {β β' : Env} {u : World} {a : α} {v : Value} (h : (c.X a).rep β u v) : (c.X a).rep β' u v := (c.X a).ext (fun e he => by rw [c.ns0 a] at he; cases he) h
theorem Els.mono {l : List α} {cs : List Value} (hs : Sub u u') (h : Els c l u cs) : Els c l u' cs := Cells.mono hs h
theorem szs_map (c : Cod α) : ∀ l : List α, szs (l.map c.X) = l.length * c.sz
  | [] => by simp [szs]
  | a :: l => by
    show (c.X a).sz + szs (l.map c.X) = _
    rw [szs_map c l, c.sz0, List.length_cons, Nat.add_mul]; omega
theorem Els.len {l : List α} {cs : List Value} (h : Els c l u cs) : cs.length = l.length * c.sz := by rw [(Cells.flat h).1, szs_map]
theorem Els.one {l : List α} {cs : List Value} (h : Els c l u cs) : ∀ x ∈ cs, x.oneCell' = true := List.all_eq_true.1 (Cells.flat h).2
theorem Els.append : ∀ {l m : List α} {xs ys : List Value}, Els c l u xs → Els c m u ys → Els c (l ++ m) u (xs ++ ys)
  | [], m, xs, ys, h, k => by rw [show xs = [] from h]; exact k
  | a :: l, m, xs, ys, ⟨v, rest, h0, h1, e, h2⟩, k => ⟨v, rest ++ ys, h0, h1, by rw [e, List.append_assoc], Els.append h2 k⟩
theorem Els.at : ∀ {l : List α} {xs : List Value} {i : Nat} {a : α}, Els c l u xs → l[i]? = some a → ∃ p v q, xs = p ++ v.cells.toList ++ q ∧ p.length = i * c.sz ∧ (c.X a).rep B0 u v ∧ ∀ b y, (c.X b).rep B0 u y → Els c (l.set i b) u (p ++ y.cells.toList ++ q)
  | [], _, _, _, _, h => by simp at h
  | a :: l, xs, 0, b, ⟨v, rest, h0, h1, e, h2⟩, h => by
    simp at h; subst h
    exact ⟨[], v, rest, by simpa using e, by simp, h1, fun b y hb => ⟨y, rest, by rw [c.sz0]; exact c.pos, hb, by simp, h2⟩⟩
  | a :: l, xs, i + 1, b, ⟨v, rest, h0, h1, e, h2⟩, h => by
    obtain ⟨p, y, q, e', hp, hy, hset⟩ := Els.at h2 (i := i) (a := b) (by simpa using h)
    refine ⟨v.cells.toList ++ p, y, q, by rw [e, e']; simp, by rw [List.length_append, hp, ((c.X a).shp h1 h0).1.1, c.sz0, Nat.add_mul]; omega, hy, fun b z hb => ⟨v, p ++ z.cells.toList ++ q, h0, h1, by simp, hset b z hb⟩⟩
theorem Els.take : ∀ (n : Nat) {l : List α} {xs : List Value}, Els c l u xs → n ≤ l.length → Els c (l.take n) u (xs.take (n * c.sz))
  | 0, l, xs, h, _ => by simp; rfl
  | n + 1, [], _, _, hn => by simp at hn
  | n + 1, a :: l, xs, ⟨v, rest, h0, h1, e, h2⟩, hn => by
    have hl := ((c.X a).shp h1 h0).1.1
    rw [c.sz0] at hl
    refine ⟨v, rest.take (n * c.sz), h0, h1, ?_, Els.take n h2 (by simpa using hn)⟩
    rw [e, List.take_append, hl, List.take_of_length_le (by rw [hl, Nat.add_mul]; omega)]
    congr 2
    rw [Nat.add_mul]; omega
theorem Els.drop : ∀ (n : Nat) {l : List α} {xs : List Value}, Els c l u xs → n ≤ l.length → Els c (l.drop n) u (xs.drop (n * c.sz))
  | 0, l, xs, h, _ => by simpa using h
  | n + 1, [], _, _, hn => by simp at hn
  | n + 1, a :: l, xs, ⟨v, rest, h0, h1, e, h2⟩, hn => by
    have hl := ((c.X a).shp h1 h0).1.1
    rw [c.sz0] at hl
    rw [e, List.drop_append, hl, List.drop_eq_nil_of_le (as := v.cells.toList) (by rw [hl, Nat.add_mul]; omega), List.nil_append, List.drop_succ_cons, show (n + 1) * c.sz - c.sz = n * c.sz by rw [Nat.add_mul]; omega]
    exact Els.drop n h2 (by simpa using hn)
theorem els_rep {v : Value} (hz : (c.X c.dflt).rep B0 u v) : ∀ n : Nat, Els c (List.replicate n c.dflt) u (List.replicate n v.cells.toList).flatten
  | 0 => rfl
  | n + 1 => ⟨v, (List.replicate n v.cells.toList).flatten, by rw [c.sz0]; exact c.pos, hz, by simp [List.replicate_succ], els_rep hz n⟩

/-- Cells that stand in memory for good. -/
def Stand (u : World) (ad : Addr) (xs : List Value) : Prop := ∀ j v, xs[j]? = some v → u.cell? (ad.add j) = some v
theorem Stand.mono {ad : Addr} {xs : List Value} (hs : Sub u u') (h : Stand u ad xs) : Stand u' ad xs := fun j v hv => hs _ _ (h j v hv)
/-- A slice that reads as these things. -/
def T.l (c : Cod α) (l : List α) : T := ⟨[], 1, false, fun _ u v => ∃ A n k, v = .slice A n k ∧ l.length = n ∧ n ≤ k ∧ k ≤ 9223372036854775807 ∧ (0 < n → ∃ ad, A = some ad ∧ ∃ xs, Els c l u xs ∧ Stand u ad xs),
  fun ⟨A, n, k, e, _⟩ _ => by subst e; exact ⟨⟨rfl, rfl⟩, rfl⟩, fun hs ⟨A, n, k, e, h1, h2, h3, h4⟩ => ⟨A, n, k, e, h1, h2, h3, fun hp => by
    obtain ⟨ad, ea, xs, h5, h6⟩ := h4 hp
    exact ⟨ad, ea, xs, h5.mono hs, h6.mono hs⟩⟩, fun _ h => h⟩
/-- A place in memory that stands for good. -/
def T.fp (X : T) : T := ⟨X.ns, 1, false, fun β u v => ∃ ad x, v = .pointer (some ad) ∧ X.sz ≠ 0 ∧ X.rep β u x ∧ Stand u ad x.cells.toList, fun ⟨ad, x, e, _⟩ _ => by subst e; exact ⟨⟨rfl, rfl⟩, rfl⟩,
  fun hs ⟨ad, x, e, h0, h1, h2⟩ => ⟨ad, x, e, h0, X.mono hs h1, h2.mono hs⟩, fun hn ⟨ad, x, e, h0, h1, h2⟩ => ⟨ad, x, e, h0, X.ext hn h1, h2⟩⟩
/-- A row of one's own: its elements' type, its elements. -/
def Ent.row (c : Cod α) (e : TypeId) (l : List α) : Ent := ⟨[], fun _ u w v F => ∃ xs, w.ownsRow 0 e c.sz v l.length xs ∧ Els c l u xs ∧ ∀ k, F k ↔ v.ownBlock = some k,
  fun hs ⟨xs, h1, h2, h3⟩ => ⟨xs, h1, h2.mono hs, h3⟩, fun _ h => h, fun hl ⟨xs, h1, h2, h3⟩ => ⟨xs, ⟨h1.1, by
    rcases h1.2 with h | ⟨g, cap, cur, rfl, hg, hh, r⟩
    · exact .inl h
    · exact .inr ⟨g, cap, cur, rfl, hg, (hl g ((h3 g).2 rfl)).trans hh, r⟩⟩, h2, h3⟩⟩
/-- A row that is written to no more. -/
def Ent.frz (c : Cod α) (l : List α) : Ent := ⟨[], fun _ u _ v F => (∀ k, ¬ F k) ∧ (T.l c l).rep B0 u v, fun hs ⟨h1, h2⟩ => ⟨h1, (T.l c l).mono hs h2⟩, fun _ h => h, fun _ h => h⟩
/-- The slice of a row of one's own. -/
def T.o (e : Nat) : T := ⟨[e], 1, false, fun β _ v => v = β e ∧ ∃ A n k, v = .slice A n k, fun ⟨_, A, n, k, e⟩ _ => by subst e; exact ⟨⟨rfl, rfl⟩, rfl⟩, fun _ h => h, fun hn ⟨h1, h2⟩ => ⟨by rw [hn _ List.mem_cons_self]; exact h1, h2⟩⟩
/-- A place in it: of element i. -/
def T.q (e off : Nat) : T := ⟨[e], 1, false, fun β _ v => ∃ b n k, β e = .slice (some ⟨b, 0, none⟩) n k ∧ v = pt b off, fun ⟨b, n, k, _, h⟩ _ => by subst h; exact ⟨⟨rfl, rfl⟩, rfl⟩, fun _ h => h, fun hn ⟨b, n, k, h1, h2⟩ => ⟨b, n, k, by rw [hn _ List.mem_cons_self]; exact h1, h2⟩⟩
theorem nil_l (c : Cod α) : (T.c (.slice none 0 0)).le (T.l c []) := fun β u v h => ⟨none, 0, 0, h, rfl, Nat.le_refl _, by omega, fun h => absurd h (by omega)⟩
end

/-- Blocks of S, known for good from now on. -/
noncomputable def solid (u w : World) (S : Nat → Prop) : World := by
  classical
  exact { w with heap := Array.ofFn (n := w.heap.size) fun b => if S b.val then w.heap[b] else (u.heap[b.val]?).getD (.cells #[] 0 (0, 0)) }
section
variable {u w : World} {S : Nat → Prop}
open Classical in
theorem solid_cell (hs : Sub u w) (a : Addr) : (solid u w S).cell? a = if S a.block then w.cell? a else u.cell? a := by
  by_cases hlt : a.block < w.heap.size
  · unfold World.cell? solid
    simp only [Array.getElem?_ofFn, hlt, dif_pos]
    by_cases hk : S a.block
    · simp [hk, Array.getElem?_eq_getElem hlt]
    · simp only [hk, if_false]
      cases hu : u.heap[a.block]? with
      | none => simp
      | some ob => simp
  · have h1 : (solid u w S).cell? a = none := cell_none (by unfold solid; simp; omega)
    have h2 : w.cell? a = none := cell_none (by omega)
    rw [h1, h2]
    split
    · rfl
    · cases hu : u.cell? a with
      | none => rfl
      | some v => rw [hs a v hu] at h2; cases h2
theorem solid_in (hs : Sub u w) {a : Addr} (h : S a.block) : (solid u w S).cell? a = w.cell? a := by rw [solid_cell hs, if_pos h]
theorem solid_out (hs : Sub u w) {a : Addr} (h : ¬ S a.block) : (solid u w S).cell? a = u.cell? a := by rw [solid_cell hs, if_neg h]
theorem solid_up (hs : Sub u w) (hd : ∀ k, S k → Dead u k) : Sub u (solid u w S) := fun a v hv => by
  rw [solid_out hs (fun h => by rw [hd _ h a rfl] at hv; cases hv)]; exact hv
theorem solid_sub (hs : Sub u w) : Sub (solid u w S) w := fun a v hv => by
  by_cases h : S a.block
  · rwa [solid_in hs h] at hv
  · rw [solid_out hs h] at hv; exact hs a v hv
theorem solid_dead (hs : Sub u w) {k : Nat} (hk : ¬ S k) (hd : Dead u k) : Dead (solid u w S) k := fun a ha => by
  rw [solid_out hs (by rw [ha]; exact hk)]; exact hd a ha
end
section
variable {α : Type} {c : Cod α} {β : Env} {u w : World} {F : FP}
/-- New memory that stands for good at once. -/
theorem after_solid {X : T} {v : Value} {cs : Array Value} {e : TypeId} (hs : Sub u w) (h : ∀ u', Sub u u' → (∀ j y, cs[j]? = some y → u'.cell? ⟨w.heap.size, j, none⟩ = some y) → X.rep β u' v) : After β u w F [] (lk []) [] X v (w.alloc (.cells cs e (0, 0))) := by
  have hs' : Sub u (w.alloc (.cells cs e (0, 0))) := (tr_alloc (C := fun _ => False) hs (.cells cs e (0, 0))).sub
  have hd : ∀ k, k = w.heap.size → Dead u k := fun k hk => dead_new hs (by omega)
  refine ⟨solid u (w.alloc (.cells cs e (0, 0))) (· = w.heap.size), β, F, fun _ _ => rfl, ⟨rfl, rfl, rfl, by simp, fun k hk _ => Below.heap_alloc _ _ _ hk, solid_up hs' hd, solid_sub hs', fun k hk _ h => solid_dead hs' (by omega) h⟩, Hold.none _ _ _ _, (fun e X k h => by cases h), h _ (solid_up hs' hd) (fun j y hy => ?_)⟩
  rw [solid_in (S := fun k => k = w.heap.size) hs' rfl]
  unfold World.cell?
  rw [heap_alloc_new]
  simpa using hy
/-- What append, make and stores leave of a row. -/
theorem after_row {w' : World} {e e' : Nat} {l l' : List α} {ty : TypeId} {v : Value} {N : List Nat} {R : T} (hH : Hold β u w F (lk [(e, Ent.row c ty l)])) (hs : Sub u w) (hg : w.grownBy w' (β e).ownBlock) (ho : ∃ xs, w'.ownsRow 0 ty c.sz v l'.length xs ∧ Els c l' u xs)
    (hv : v.ownBlock = (β e).ownBlock ∨ v.ownBlock = some w.heap.size) {β' : Env} (hb : ∀ f, f ∉ N → β' f = β f) (hv' : β' e' = v) {x : Value} (hR : R.rep β' u x) : After β u w F [e] (lk [(e', Ent.row c ty l')]) N R x w' := by
  obtain ⟨xs0, k1, k2, k3⟩ := hH.hold e _ lk1_same
  obtain ⟨xs, h1, h2⟩ := ho
  have hlt : ∀ k, v.ownBlock = some k → k < w'.heap.size := fun k hk => (h1.lt k hk).2
  refine ⟨u, β', fun _ k => v.ownBlock = some k, hb, ⟨hg.os, hg.tape, hg.output, hg.size, fun k hk hc => hg.block k hk (fun h => hc ⟨e, List.mem_cons_self, (k3 k).2 h.symm⟩), Sub.refl _, fun a y hy => hg.cell (hs a y hy) (fun h => ?_), fun _ _ _ h => h⟩,
    hold1 ⟨xs, by rw [hv']; exact h1, h2, fun k => by rw [hv']⟩ (fun k hk => ⟨?_, hlt k hk⟩), fun f X k h hk => ?_, hR⟩
  · have := (hH.dead e _ a.block lk1_same ((k3 _).2 h.symm)).1 a rfl
    rw [this] at hy; cases hy
  · rcases hv with h | h
    · exact (hH.dead e _ k lk1_same ((k3 k).2 (by rw [← h]; exact hk))).1
    · have : some k = some w.heap.size := by rw [← h]; exact hk.symm
      exact dead_new hs (by have := Option.some.inj this; omega)
  · rcases hv with h | h
    · exact .inl ⟨e, List.mem_cons_self, (k3 k).2 (by rw [← h]; exact hk)⟩
    · have : some k = some w.heap.size := by rw [← h]; exact hk.symm
      exact .inr (by have := Option.some.inj this; omega)
/-- A new row. -/
theorem after_newrow {w' : World} {e' : Nat} {l' : List α} {ty : TypeId} {v : Value} (hs : Sub u w) (hg : w.grownBy w' none) (ho : ∃ xs, w'.ownsRow 0 ty c.sz v l'.length xs ∧ Els c l' u xs)
    (hv : v.ownBlock = none ∨ v.ownBlock = some w.heap.size) (hsl : ∃ A n k, v = .slice A n k) : After β u w F [] (lk [(e', Ent.row c ty l')]) [e'] (T.o e') v w' := by
  obtain ⟨xs, h1, h2⟩ := ho
  have hlt : ∀ k, v.ownBlock = some k → k = w.heap.size ∧ k < w'.heap.size := fun k hk => ⟨by
    rcases hv with h | h
    · rw [h] at hk; cases hk
    · rw [h] at hk; exact (Option.some.inj hk).symm, (h1.lt k hk).2⟩
  refine ⟨u, setE β e' v, fun _ k => v.ownBlock = some k, fun f hf => setE_ne _ _ (by simpa using hf), ⟨hg.os, hg.tape, hg.output, hg.size, fun k hk _ => hg.block k hk (by simp), Sub.refl _, fun a y hy => hg.cell (hs a y hy) (by simp), fun _ _ _ h => h⟩,
    hold1 ⟨xs, by rw [setE_same]; exact h1, h2, fun k => by rw [setE_same]⟩ (fun k hk => ⟨dead_new hs (by have := (hlt k hk).1; omega), (hlt k hk).2⟩), fun f X k h hk => .inr (by have := (hlt k hk).1; omega), (setE_same _ _ _).symm, hsl⟩
end

/-- A slice's type, its elements' type, size, bytes and nought. -/
def SlT (P : Program) (t e : TypeId) (sz bytes : Nat) : Prop := P.underlying t = some (.slice e) ∧ ∃ z : Value, (P.info? e).map (fun i => (i.zero, i.size, i.bytes)) = some (some z, sz, bytes) ∧ z.cells.size = sz ∧ z.cells.toList.all Value.oneCell' = true
theorem SlT.mk {P : Program} {t e : TypeId} {sz bytes : Nat} (z : Value) (h1 : P.underlying t = some (.slice e) := by kernel_rfl) (h2 : (P.info? e).map (fun i => (i.zero, i.size, i.bytes)) = some (some z, sz, bytes) := by kernel_rfl) (h3 : z.cells.size = sz := by rfl) (h4 : z.cells.toList.all Value.oneCell' = true := by rfl) : SlT P t e sz bytes := ⟨h1, z, h2, h3, h4⟩
theorem SlT.info {P : Program} {t e : TypeId} {sz bytes : Nat} (h : SlT P t e sz bytes) : P.underlying t = some (.slice e) ∧ ∃ inf z, P.info? e = some inf ∧ inf.zero = some z ∧ inf.size = sz ∧ inf.bytes = bytes ∧ z.cells.size = sz := by
  obtain ⟨ht, z, hz, hzc, _⟩ := h
  obtain ⟨inf, hi, hzz⟩ := Option.map_eq_some_iff.1 hz
  simp only [Prod.mk.injEq] at hzz
  exact ⟨ht, inf, z, hi, hzz.1, hzz.2.1, hzz.2.2, hzc⟩
section
variable {α : Type} {c : Cod α} {P : Program} {u w : World} {t e : TypeId} {bytes : Nat}
/-- append(row, slice...). -/
theorem run_append (hT : SlT P t e c.sz bytes) {v y : Value} {l ys : List α} {xs : List Value} {ty : TypeId} (hown : w.ownsRow 0 e c.sz v l.length xs) (hE : Els c l u xs) (hy : (T.l c ys).rep B0 u y) (hs : Sub u w) (hb : (l.length + ys.length) * bytes ≤ 140737488355328) (h0 : 0 < bytes) :
    ∃ v' w', (Builtin.append_ #[t, t] ty #[v, y]).run P w = .ok v' w' ∧ (∃ xs', w'.ownsRow 0 e c.sz v' (l ++ ys).length xs' ∧ Els c (l ++ ys) u xs') ∧ w.grownBy w' v.ownBlock ∧ (v'.ownBlock = v.ownBlock ∨ v'.ownBlock = some w.heap.size) ∧ ∃ A n k, v' = .slice A n k := by
  obtain ⟨ht, inf, z, hi, hz0, hz1, hz2, hzc⟩ := hT.info
  obtain ⟨A, n, k, ey, hn, hnk, hk, hcell⟩ := hy
  subst ey
  have hv : ∃ B n cp, v = .slice B n cp ∧ n ≤ cp := by
    rcases hown.2 with ⟨ev, hn⟩ | ⟨g, cap, cur, ev, _, _, hc1, _⟩
    · exact ⟨none, 0, 0, ev, Nat.le_refl _⟩
    · exact ⟨_, _, _, ev, hc1⟩
  rcases Nat.eq_zero_or_pos n with h | h
  · subst h
    have hys : ys = [] := List.eq_nil_of_length_eq_zero hn
    subst hys
    obtain ⟨B, nb, cp, ev, hle⟩ := hv
    refine ⟨v, w, ?_, ⟨xs, by simpa using hown, by simpa using hE⟩, ⟨rfl, rfl, rfl, Nat.le_refl _, fun _ _ _ => rfl⟩, .inl rfl, B, nb, cp, ev⟩
    subst ev
    cases B <;> cases A <;> simp [Builtin.append_, run_underlying ht, sizeOf, typeInfo, hi, Builtin.lenOf, hle, Builtin.firstCells, storeCells, loadCells, loadCellsFrom]
  · obtain ⟨ad, ea, zs, hEy, hst⟩ := hcell h
    subst ea
    have hm : l.length + n ≤ maxLen := by
      have := Nat.le_trans (Nat.le_mul_of_pos_right _ h0) hb
      unfold maxLen; omega
    obtain ⟨v', w', hr, h2, h3, _, h5⟩ := run_append_own_at (P := P) w 0 t ty e inf z c.sz bytes ht hi hz0 hz1 hz2 hzc (Nat.pos_of_ne_zero c.pos) v l.length xs hown ad n k zs (by rw [hEy.len, hn]) (fun j y hy => hs _ _ (hst j y hy)) hEy.one hm (by rw [← hn]; exact hb) (Nat.zero_le _)
    refine ⟨v', w', hr, ⟨xs ++ zs, by rw [List.length_append, hn]; exact h2, hE.append hEy⟩, h3, h5, ?_⟩
    rcases h2.2 with ⟨ev, _⟩ | ⟨g, cap, cur, ev, _⟩
    · exact ⟨_, _, _, ev⟩
    · exact ⟨_, _, _, ev⟩
end

/-! ### steps -/
/-- A slice of these things. -/
class IsL {α : Type} (X : T) (c : Cod α) (l : outParam (List α)) : Prop where le : X.le (T.l c l)
instance {α : Type} (c : Cod α) (l : List α) : IsL (T.l c l) c l := ⟨.refl _⟩
instance {α : Type} (c : Cod α) : IsL (T.c (.slice none 0 0)) c [] := ⟨nil_l c⟩
/-- A slice that stands, as it is told. -/
class IsI {α : outParam Type} (X : T) (c : outParam (Cod α)) (l : outParam (List α)) : Prop where le : X.le (T.l c l)
instance {α : Type} (c : Cod α) (l : List α) : IsI (T.l c l) c l := ⟨.refl _⟩
section
variable {P : Program} {ops : Array Oper} {fin : List OpS → List (Nat × T) → List (Nat × Option Ent) → Prop} {r : List Oper} {H : List OpS} {g : List (Nat × T)} {E : List (Nat × Option Ent)} {o : Oper}
variable {t : Option Nat} {ty : TypeId} {ps : String} {af : Array Edge} {gd : Option (Nat × Bool)} {x y : Operand} {X Y : T} {e off m : Nat} {b : Bool} {l l' : List T} {et : TypeId}
variable {α : Type} {c : Cod α} {xs ys : List α} {tys : Array TypeId}
theorem run_len {A : Option Addr} {n k : Nat} {ρ : Operand → Value} {w : World} {τ : TypeId} {sz bytes : Nat} (hT : SlT P et τ sz bytes) (hx : ρ x = .slice A n k) : (execOp ρ ⟨t, .call ⟨.builtin .len, #[x], #[et]⟩, ty, ps, af, gd⟩).run P w = .ok (.value (.int .i64 (n : Int))) w := by
  simp [execOp, resolve, invoke, builtin, hx, Builtin.len_, Builtin.lenOf, goInt, run_underlying hT.1]
/-- A slice of so many. -/
class IsS (X : T) (n : outParam Nat) : Prop where le : ∀ β u v, X.rep β u v → ∃ A k, v = .slice A n k
instance {α : Type} (c : Cod α) (l : List α) : IsS (T.l c l) l.length := ⟨fun β u v ⟨A, n, k, h1, h2, _⟩ => ⟨A, k, by rw [h2]; exact h1⟩⟩
instance (A : Option Addr) (n k : Nat) : IsS (T.c (.slice A n k)) n := ⟨fun β u v h => ⟨A, k, h⟩⟩
/-- len of a slice that stands. -/
theorem ln {τ : TypeId} {sz bytes n : Nat} (hT : SlT P et τ sz bytes) [hl : IsS X n] (hX : envl g x = some X) (hn : J P ops fin r (OpS.p (T.c (.int .i64 (n : Int))) :: H) (putg t (T.c (.int .i64 (n : Int))) g) E) (hg : GuardIs ops g ⟨t, .call ⟨.builtin .len, #[x], #[et]⟩, ty, ps, af, gd⟩ true := by exact gd0) : J P ops fin (⟨t, .call ⟨.builtin .len, #[x], #[et]⟩, ty, ps, af, gd⟩ :: r) H g E :=
  j_val hg (ok_pure fun ρ β u w F hs he hH => by
    obtain ⟨A, k, h1⟩ := hl.le _ _ _ (he x (by simp [Op.operands, Call.operands]) _ hX)
    exact ⟨_, run_len hT h1, rfl⟩) hn
/-- len of a row of one's own. -/
theorem lno {τ τ' : TypeId} {sz bytes : Nat} (hT : SlT P et τ' sz bytes) (hX : envl g x = some (T.o e)) (hE : lkE E e = some (Ent.row c τ xs)) (hn : J P ops fin r (⟨[e], [], [], [], T.c (.int .i64 (xs.length : Int))⟩ :: H) (putg t (T.c (.int .i64 (xs.length : Int))) g) E) (hg : GuardIs ops g ⟨t, .call ⟨.builtin .len, #[x], #[et]⟩, ty, ps, af, gd⟩ true := by exact gd0) : J P ops fin (⟨t, .call ⟨.builtin .len, #[x], #[et]⟩, ty, ps, af, gd⟩ :: r) H g E :=
  j_use hE hg (fun ρ β u w F hs he hH => by
    obtain ⟨h1, A, n, k, h2⟩ := he x (by simp [Op.operands, Call.operands]) _ hX
    obtain ⟨zs, k1, k2, k3⟩ := hH.hold e _ lk1_same
    have hnn : n = xs.length := by
      rcases k1.2 with ⟨ev, hn⟩ | ⟨q, cap, cur, ev, _⟩
      · rw [← h1, h2] at ev; cases ev; omega
      · rw [← h1, h2] at ev; cases ev; rfl
    unfold Res
    rw [run_len hT h2]
    exact after_pure hs (by rw [hnn]; rfl)) hn
theorem run_index {ρ : Operand → Value} {w : World} {τ : TypeId} {bytes sz : Nat} {ad : Addr} {n k : Nat} {kk : IntKind} {i : Nat} (hT : SlT P et τ sz bytes) (hx : ρ x = .slice (some ad) n k) (hy : ρ y = .int kk (i : Int)) (h1 : i < n) : (execOp ρ ⟨t, .indexAddr et x y, ty, ps, af, gd⟩).run P w = .ok (.value (.pointer (some (ad.add (i * sz))))) w := by
  obtain ⟨ht, inf, z, hi, hz0, hz1, hz2, hzc⟩ := hT.info
  have h0 : (0 : Int) ≤ (i : Int) := by omega
  have h2 : ((i : Int)) < (n : Int) := by omega
  simp [execOp, hx, hy, Instr.indexAt, asIntOf, run_underlying ht, h0, h2, sizeOf, typeInfo, hi, hz1, h1]
theorem Stand.at {u : World} {ad : Addr} {zs p q : List Value} {v : Value} {n : Nat} (h : Stand u ad zs) (e : zs = p ++ v.cells.toList ++ q) (hp : p.length = n) : Stand u (ad.add n) v.cells.toList := fun j y hy => by
  have := h (n + j) y (by rw [e, List.append_assoc, List.getElem?_append_right (by omega), hp, Nat.add_sub_cancel_left, List.getElem?_append_left (List.getElem?_eq_some_iff.1 hy).1]; exact hy)
  rwa [show (ad.add n).add j = ad.add (n + j) from by
    unfold Addr.add
    by_cases h1 : n = 0 <;> by_cases h2 : j = 0 <;> simp [h1, h2] <;> omega]
/-- An element's place: of a slice that stands. -/
theorem ix {τ : TypeId} {bytes i : Nat} {kk : IntKind} {z : Int} [hl : IsI X c xs] (hX : envl g x = some X) (hY : envl g y = some (T.c (.int kk z))) (hT : SlT P et τ c.sz bytes) (hi : z = (i : Int) ∧ i < xs.length) (hn : J P ops fin r (OpS.p (T.fp (c.X (xs.getD i c.dflt))) :: H) (putg t (T.fp (c.X (xs.getD i c.dflt))) g) E) (hg : GuardIs ops g ⟨t, .indexAddr et x y, ty, ps, af, gd⟩ true := by exact gd0) : J P ops fin (⟨t, .indexAddr et x y, ty, ps, af, gd⟩ :: r) H g E :=
  j_val hg (ok_pure fun ρ β u w F hs he hH => by
    obtain ⟨A, n, k, h1, h2, h3, h4, h5⟩ := hl.le _ _ _ (he x (by simp [Op.operands]) _ hX)
    have hy : ρ y = .int kk (i : Int) := by rw [← hi.1]; exact he y (by simp [Op.operands]) _ hY
    obtain ⟨ad, rfl, zs, hE, hst⟩ := h5 (by omega)
    have hx : xs[i]? = some (xs.getD i c.dflt) := by rw [List.getD_eq_getElem?_getD, List.getElem?_eq_getElem hi.2]; rfl
    obtain ⟨p, v, q, e1, hp, hv, _⟩ := hE.at hx
    exact ⟨_, run_index hT h1 hy (by omega), _, v, rfl, by rw [c.sz0]; exact c.pos, c.any hv, hst.at e1 hp⟩) hn
/-- A load of what stands for good. -/
theorem lf {ty' : TypeId} (hX : envl g x = some (T.fp X)) (hT : Ty P ty' b m) (hn : J P ops fin r (OpS.p X :: H) (putg t X g) E) (hm : X.sz = m ∧ X.ag = b := by exact ⟨rfl, rfl⟩) (h1 : (b || m == 1) = true := by rfl) (hg : GuardIs ops g ⟨t, .load ty' x, ty, ps, af, gd⟩ true := by exact gd0) : J P ops fin (⟨t, .load ty' x, ty, ps, af, gd⟩ :: r) H g E :=
  j_val hg (ok_pure fun ρ β u w F hs he hH => by
    obtain ⟨ad, v, h2, h0, h3, h4⟩ := he x (by simp [Op.operands]) _ hX
    obtain ⟨hf, hv⟩ := X.shp h3 h0
    have hlen : v.cells.toList.length = m := by rw [← hm.1]; exact hf.1
    have := run_loadAt (P := P) (w := w) (ad := ad) (vs := v.cells.toList) (by rw [hlen]; exact hT) (fun j y hy => hs _ _ (h4 j y hy)) (by rw [hlen]; exact ty_one hT h1)
    refine ⟨v, ?_, h3⟩
    rw [hm.2] at hv
    rw [← hv] at this
    simp only [execOp, h2, Instr.loadAt, Instr.sureAddr, Sem.run_bind, Result.andThen_ok, Sem.run_pure, this]) hn
/-- append to a row of one's own. -/
theorem ap {τ : TypeId} {bytes : Nat} (e' : Nat) [hl : IsL Y c ys] (hX : envl g x = some (T.o e)) (hE : lkE E e = some (Ent.row c τ xs)) (hY : envl g y = some Y) (hT : SlT P et τ c.sz bytes) (hb : (xs.length + ys.length) * bytes ≤ 140737488355328) (h0 : 0 < bytes)
    (hn : J P ops fin r (⟨[], [e], [(e', Ent.row c τ (xs ++ ys))], [e'], T.o e'⟩ :: H) (putg t (T.o e') g) ((e', some (Ent.row c τ (xs ++ ys))) :: (e, none) :: E)) (hne : Nat.beq e' e = false := by rfl) (hg : GuardIs ops g ⟨t, .call ⟨.builtin .append, #[x, y], #[et, et]⟩, ty, ps, af, gd⟩ true := by exact gd0) : J P ops fin (⟨t, .call ⟨.builtin .append, #[x, y], #[et, et]⟩, ty, ps, af, gd⟩ :: r) H g E := by
  have hne' : e' ≠ e := fun h => by subst h; simp at hne
  refine ⟨⟨[], [e], [(e', Ent.row c τ (xs ++ ys))], [e'], T.o e'⟩, (e', some (Ent.row c τ (xs ++ ys))) :: (e, none) :: E, .inl ⟨hg, fun f he => ⟨Ent.row c τ xs, by rw [show f = e from by simpa using he]; exact hE⟩, ?_⟩, fun f => ?_, hn⟩
  · have : (fun f => if f ∈ (OpS.mk [] [e] [(e', Ent.row c τ (xs ++ ys))] [e'] (T.o e')).uses ++ (OpS.mk [] [e] [(e', Ent.row c τ (xs ++ ys))] [e'] (T.o e')).cons then lkE E f else none) = lk [(e, Ent.row c τ xs)] := funext fun f => by
      rw [lk_cons]
      by_cases h : e = f
      · subst h; rw [if_pos (by simp), if_pos rfl, hE]
      · rw [if_neg (by simp; exact fun h' => h h'.symm), if_neg h]; rfl
    rw [this]
    intro ρ β u w F hs he hH
    obtain ⟨h1, A, n, k, h2⟩ := he x (by simp [Op.operands, Call.operands]) _ hX
    have hy := (T.l c ys).ext (β' := B0) (fun _ h => by cases h) (hl.le _ _ _ (he y (by simp [Op.operands, Call.operands]) _ hY))
    obtain ⟨zs, k1, k2, k3⟩ := hH.hold e _ lk1_same
    rw [← h1] at k1
    obtain ⟨v', w', hr, ho, hgw, hv, hsl⟩ := run_append (ty := ty) hT k1 k2 hy hs hb h0
    unfold Res
    simp only [execOp, resolve, invoke, builtin, Sem.run_bind, Sem.run_pure, Result.andThen_ok, List.map_toArray, List.map_cons, List.map_nil, hr]
    exact after_row hH hs (by rw [← h1]; exact hgw) ho (by rw [← h1]; exact hv) (β' := setE β e' v') (fun f hf => setE_ne _ _ (by simpa using hf)) (setE_same _ _ _) ⟨(setE_same _ _ _).symm, hsl⟩
  · unfold lkE OpS.upd
    rw [lk_cons, lk_cons, lk_cons]
    by_cases h : e' = f
    · rw [if_pos h, if_pos h]; rfl
    · rw [if_neg h, if_neg h]
      show _ = if [e].contains f then none else _
      by_cases h2 : e = f
      · subst h2; simp
      · rw [if_neg h2, if_neg (by simpa using fun h3 => h2 h3.symm)]
/-- An element's place: of a row of one's own. -/
theorem ixo {τ : TypeId} {bytes i : Nat} {kk : IntKind} {z : Int} (hX : envl g x = some (T.o e)) (hE : lkE E e = some (Ent.row c τ xs)) (hY : envl g y = some (T.c (.int kk z))) (hT : SlT P et τ c.sz bytes) (hi : z = (i : Int) ∧ i < xs.length) (hn : J P ops fin r (⟨[e], [], [], [], T.q e (i * c.sz)⟩ :: H) (putg t (T.q e (i * c.sz)) g) E) (hg : GuardIs ops g ⟨t, .indexAddr et x y, ty, ps, af, gd⟩ true := by exact gd0) : J P ops fin (⟨t, .indexAddr et x y, ty, ps, af, gd⟩ :: r) H g E :=
  j_use hE hg (fun ρ β u w F hs he hH => by
    obtain ⟨h1, A, n, k, h2⟩ := he x (by simp [Op.operands]) _ hX
    have hy : ρ y = .int kk (i : Int) := by rw [← hi.1]; exact he y (by simp [Op.operands]) _ hY
    obtain ⟨zs, k1, k2, k3⟩ := hH.hold e _ lk1_same
    rcases k1.2 with ⟨ev, hn⟩ | ⟨q, cap, cur, ev, _⟩
    · omega
    · have hx : ρ x = .slice (some ⟨q, 0, none⟩) xs.length cap := by rw [h1, ev]
      unfold Res
      rw [run_index hT hx hy hi.2]
      exact after_pure hs ⟨q, _, _, ev, by rw [add_none, Nat.zero_add]⟩) hn
theorem row_cells {w : World} {q n cap sz : Nat} {τ : TypeId} {zs p v s : List Value} (h : w.ownsRow 0 τ sz (.slice (some ⟨q, 0, none⟩) n cap) n zs) (e : zs = p ++ v ++ s) {i : Nat} (hp : p.length = i * sz) : ∀ j y, v[j]? = some y → w.cell? ((⟨q, i * sz, none⟩ : Addr).add j) = some y := fun j y hy => by
  have := h.cells (g := q) rfl (i * sz + j) y (by rw [e, List.append_assoc, List.getElem?_append_right (by omega), hp, Nat.add_sub_cancel_left, List.getElem?_append_left (List.getElem?_eq_some_iff.1 hy).1]; exact hy)
  rw [add_none, Nat.zero_add] at this
  rw [add_none]
  exact this
/-- A load out of a row of one's own. -/
theorem lo {ty' τ : TypeId} {i : Nat} (i' : Nat) (hX : envl g x = some (T.q e off)) (hE : lkE E e = some (Ent.row c τ xs)) (hT : Ty P ty' b m) (hi : off = i * c.sz ∧ i = i' ∧ i < xs.length) (hn : J P ops fin r (⟨[e], [], [], [], c.X (xs.getD i' c.dflt)⟩ :: H) (putg t (c.X (xs.getD i' c.dflt)) g) E) (hm : c.sz = m ∧ (c.X (xs.getD i' c.dflt)).ag = b := by exact ⟨rfl, rfl⟩) (h1 : (b || m == 1) = true := by rfl) (hg : GuardIs ops g ⟨t, .load ty' x, ty, ps, af, gd⟩ true := by exact gd0) : J P ops fin (⟨t, .load ty' x, ty, ps, af, gd⟩ :: r) H g E := by
  obtain ⟨rfl, rfl, hi⟩ := hi
  exact j_use hE hg (fun ρ β u w F hs he hH => by
    obtain ⟨q, n, k, h2, h3⟩ := he x (by simp [Op.operands]) _ hX
    obtain ⟨zs, k1, k2, k3⟩ := hH.hold e _ lk1_same
    have hx : xs[i]? = some (xs.getD i c.dflt) := by rw [List.getD_eq_getElem?_getD, List.getElem?_eq_getElem hi]; rfl
    obtain ⟨p, v, s, e1, hp, hv, _⟩ := k2.at hx
    have hnn : n = xs.length := by
      rcases k1.2 with ⟨ev, hn⟩ | ⟨q', cap, cur, ev, _⟩
      · omega
      · rw [h2] at ev; cases ev; rfl
    subst hnn
    rw [h2] at k1
    obtain ⟨hf, hva⟩ := (c.X (xs.getD i c.dflt)).shp hv (by rw [c.sz0]; exact c.pos)
    have hlen : v.cells.toList.length = m := by rw [hf.1, c.sz0]; exact hm.1
    have := run_loadAt (P := P) (w := w) (ad := ⟨q, i * c.sz, none⟩) (vs := v.cells.toList) (by rw [hlen]; exact hT) (row_cells k1 e1 hp) (by rw [hlen]; exact ty_one hT h1)
    rw [hm.2] at hva
    rw [← hva] at this
    unfold Res
    simp only [execOp, h3, Instr.loadAt, Instr.sureAddr, Sem.run_bind, Result.andThen_ok, Sem.run_pure, this]
    exact after_pure hs (c.any hv)) hn
/-- A store into a row of one's own. -/
theorem so {ty' τ : TypeId} {i : Nat} {a : α} (hX : envl g x = some (T.q e off)) (hE : lkE E e = some (Ent.row c τ xs)) (hY : envl g y = some Y) (hle : Y.le (c.X a)) (hT : Ty P ty' b m) (hi : off = i * c.sz ∧ i < xs.length) (hn : J P ops fin r (⟨[], [e], [(e, Ent.row c τ (xs.set i a))], [], T.c undef⟩ :: H) (putg t (T.c undef) g) ((e, some (Ent.row c τ (xs.set i a))) :: E)) (hm : c.sz = m := by rfl) (hg : GuardIs ops g ⟨t, .store ty' x y, ty, ps, af, gd⟩ true := by exact gd0) : J P ops fin (⟨t, .store ty' x y, ty, ps, af, gd⟩ :: r) H g E := by
  obtain ⟨rfl, hi⟩ := hi
  exact j_set hE hg (fun ρ β u w F hs he hH => by
    obtain ⟨q, n, k, h2, h3⟩ := he x (by simp [Op.operands]) _ hX
    have hy := c.any (β' := B0) (hle _ _ _ (he y (by simp [Op.operands]) _ hY))
    have hyf := ((c.X a).shp hy (by rw [c.sz0]; exact c.pos)).1
    rw [c.sz0, hm] at hyf
    obtain ⟨zs, k1, k2, k3⟩ := hH.hold e _ lk1_same
    have hx : xs[i]? = some (xs.getD i c.dflt) := by rw [List.getD_eq_getElem?_getD, List.getElem?_eq_getElem hi]; rfl
    obtain ⟨p, v, s, e1, hp, hv, hset⟩ := k2.at hx
    have hvl : v.cells.toList.length = m := by rw [((c.X _).shp hv (by rw [c.sz0]; exact c.pos)).1.1, c.sz0]; exact hm
    rw [h2] at k1
    rcases k1.2 with ⟨ev, _⟩ | ⟨q', cap, cur, ev, hg0, hh, hc1, hc2, hc3, hc4⟩
    · cases ev
    · cases ev
      have hcur : cur = cur.toList.toArray := by simp
      rw [hcur] at hh
      have hin : i * c.sz + m ≤ cur.toList.length := by
        have : (i + 1) * c.sz ≤ k * c.sz := Nat.mul_le_mul_right _ (by omega)
        rw [Nat.add_mul] at this
        simp [hc3]; omega
      have hst := run_store (P := P) (w := w) (off := i * c.sz) hh hT hyf hin
      have hq : F e q := (k3 q).2 (by rw [h2]; rfl)
      have hd := (hH.dead e _ q lk1_same hq).1
      unfold Res
      simp only [execOp, h3, Sem.run_bind, hst, Result.andThen_ok, Sem.run_pure]
      refine ⟨u, β, F, fun _ _ => rfl, tr_setRow hs ⟨e, List.mem_cons_self, hq⟩ hd, hold1 ⟨p ++ (ρ y).cells.toList ++ s, ?_, hset a _ hy, k3⟩ (fun k hk => ?_), fun f Z k h hk => .inl ⟨e, List.mem_cons_self, ?_⟩, rfl⟩
      · rw [h2, List.length_set]
        have hlen : (p ++ (ρ y).cells.toList ++ s).length = zs.length := by rw [e1]; simp only [List.length_append, hyf.1, hvl]
        refine ⟨by rw [hlen]; exact k1.1, .inr ⟨q, k, _, rfl, Nat.zero_le _, setRow_heap _ _ _ _ _ _ hh, hc1, hc2, ?_, ?_⟩⟩
        · unfold patch
          simp only [List.size_toArray, List.length_append, List.length_take, List.length_drop, hyf.1]
          simp only [Array.length_toList] at hin ⊢
          omega
        · have hcl : cur.toList.length = k * c.sz := by simpa using hc3
          have hnl : xs.length * c.sz = zs.length := k1.1.symm
          have hzl : zs.length = p.length + m + s.length := by rw [e1]; simp only [List.length_append, hvl]
          have hle' : xs.length * c.sz ≤ k * c.sz := Nat.mul_le_mul_right _ hc1
          have hpre : cur.toList = zs ++ cur.toList.drop (xs.length * c.sz) := by rw [← hc4]; exact (List.take_append_drop _ _).symm
          show (patch cur.toList (i * c.sz) (ρ y).cells.toList).take (xs.length * c.sz) = _
          rw [hpre, e1, hnl, hzl, ← hp]
          generalize List.drop (p.length + m + s.length) cur.toList = D
          unfold patch
          rw [hyf.1, show p ++ v.cells.toList ++ s ++ D = (p ++ v.cells.toList) ++ (s ++ D) by simp, List.drop_left' (by rw [List.length_append, hvl]), List.append_assoc p, List.take_left' rfl, ← List.append_assoc, List.take_left' (by simp only [List.length_append, hyf.1])]
      · obtain ⟨m1, m2⟩ := hH.dead e _ k lk1_same hk
        exact ⟨m1, by simpa using m2⟩
      · obtain ⟨rfl, _⟩ := lk1 h; exact hk) hn
end
end Go.Proofs.YtekghdfbhbhigaaGreat.V
/- A logic of calls: fields, structs put together, whole numbers of the machine, closures. -/
set_option linter.unusedVariables false
set_option linter.unusedSimpArgs false
namespace Go.Proofs.YtekghdfbhbhigaaGreat.V
open Go.RowKit

def fieldOf (P : Program) (ty : TypeId) (k : Nat) : Option (Nat × TypeId) := (P.underlying ty).bind fun | .struct fs => (fs[k]?).map fun f => (f.offset, f.type) | _ => none
/-- A field: where it begins, is it a struct? of how many cells? -/
structure FieldT (P : Program) (ty : TypeId) (k : Nat) (off : Nat) (b : Bool) (m : Nat) : Prop where
  of : ∃ fty, fieldOf P ty k = some (off, fty) ∧ Ty P fty b m
  one : (b || m == 1) = true
  pos : m ≠ 0
theorem FieldT.mk' {P : Program} {ty fty : TypeId} {k off m : Nat} {b : Bool} (hT : Ty P fty b m) (h : fieldOf P ty k = some (off, fty) := by kernel_rfl) (h1 : (b || m == 1) = true := by rfl) (h2 : Nat.beq m 0 = false := by rfl) : FieldT P ty k off b m := ⟨⟨fty, h, hT⟩, h1, fun e => by subst e; cases h2⟩
section
variable {P : Program} {ty : TypeId} {k off m : Nat} {b : Bool}
theorem FieldT.desc (h : FieldT P ty k off b m) : ∃ fs f, P.underlying ty = some (.struct fs) ∧ fs[k]? = some f ∧ f.offset = off ∧ Ty P f.type b m := by
  obtain ⟨⟨fty, h1, h2⟩, _⟩ := h
  unfold fieldOf at h1
  obtain ⟨d, hd, hf⟩ := Option.bind_eq_some_iff.1 h1
  cases d with
  | struct fs =>
    obtain ⟨f, hf1, hf2⟩ := Option.map_eq_some_iff.1 hf
    simp only [Prod.mk.injEq] at hf2
    exact ⟨fs, f, hd, hf1, hf2.1, by rw [hf2.2]; exact h2⟩
  | _ => cases hf
theorem run_field (h : FieldT P ty k off b m) {cs : List Value} (w : World) (hl : off + m ≤ cs.length) : (Instr.field ty (.agg cs.toArray) k).run P w = .ok (asVal b ((cs.drop off).take m)) w := by
  obtain ⟨fs, f, h1, h2, h3, h4⟩ := h.desc
  subst h3
  have hp : (part f.type cs.toArray f.offset).run P w = .ok (asVal b ((cs.drop f.offset).take m)) w := by
    unfold part
    rw [Sem.run_bind, run_isAgg h4, Result.andThen_ok]
    cases b with
    | true =>
      simp only [if_true, Sem.run_bind, run_sizeOf h4, Result.andThen_ok, Sem.run_pure, asVal]
      congr 2
      apply Array.ext'
      simp [List.extract_eq_take_drop]
    | false =>
      have hm : m = 1 := by have := h.one; simpa using this
      subst hm
      have hlt : f.offset < cs.length := by omega
      have e1 : (cs.drop f.offset).take 1 = [cs[f.offset]] := by rw [List.drop_eq_getElem_cons hlt]; rfl
      rw [e1]
      simp [asVal, List.getElem?_eq_getElem hlt]
  simp [Instr.field, run_underlying h1, h2, asAgg, hp]
theorem run_fieldAt (h : FieldT P ty k off b m) (ad : Addr) (w : World) : (Instr.fieldAt ty (.pointer (some ad)) k).run P w = .ok (.pointer (some (ad.add off))) w := by
  obtain ⟨fs, f, h1, h2, h3, h4⟩ := h.desc
  subst h3
  have hp := h.pos
  simp [Instr.fieldAt, run_underlying h1, h2, Instr.sureAddr, fieldPlace, run_sizeOf h4, hp]
end
theorem Stand.at2 {u : World} {ad : Addr} {zs p q vs : List Value} {n : Nat} (h : Stand u ad zs) (e : zs = p ++ vs ++ q) (hp : p.length = n) : Stand u (ad.add n) vs := h.at (v := .agg vs.toArray) (by simpa [Value.cells] using e) hp |> fun h => by simpa [Value.cells] using h
/-- The cells of a value of a type. -/
theorem asVal_cells {b : Bool} {cs : List Value} {m : Nat} (h1 : b = false → m = 1) (hl : cs.length = m) (ho : cs.all Value.oneCell' = true) : (asVal b cs).cells.toList = cs := by
  cases b with
  | true => simp [asVal, Value.cells]
  | false =>
    have hm := h1 rfl
    subst hm
    match cs, hl, ho with
    | [y], _, ho =>
      have h1y : y.oneCell' = true := by simpa using ho
      simp only [asVal, Bool.false_eq_true, if_false, List.headD_cons]
      cases y <;> first | rfl | (simp [Value.oneCell'] at h1y)

theorem one_sz {v : Value} (h : v.oneCell' = true) : szOf v = 1 ∧ v.cells.toList = [v] := by cases v <;> first | exact ⟨rfl, rfl⟩ | (simp [Value.oneCell'] at h)
theorem cells_c {β : Env} {u : World} : ∀ {zs : List Value}, zs.all Value.oneCell' = true → Cells β u (zs.map T.c) zs
  | [], _ => rfl
  | z :: r, h => by
    simp only [List.all_cons, Bool.and_eq_true] at h
    obtain ⟨h1, h2⟩ := one_sz h.1
    exact ⟨z, r, by show szOf z ≠ 0; omega, rfl, by rw [h2]; rfl, cells_c h.2⟩
def placesOf (P : Program) (ty : TypeId) : Option (List (Nat × Nat)) := (P.underlying ty).bind fun | .struct fs => some (fs.toList.map fun f => (f.offset, ((P.info? f.type).map (·.size)).getD 0)) | _ => none
/-- A struct type: its nought, its fields' places. -/
structure StructT (P : Program) (ty : TypeId) (l : List T) (pl : List (Nat × Nat)) : Prop where
  zero : ∃ zs inf, P.info? ty = some inf ∧ inf.zero = some (.agg (List.toArray zs)) ∧ ∀ β u, Cells β u l zs
  places : placesOf P ty = some pl
  sizes : ∃ fs, P.underlying ty = some (.struct fs) ∧ ∀ f ∈ fs, ∃ inf, P.info? f.type = some inf
theorem StructT.mk' {P : Program} {ty : TypeId} {zs : List Value} {pl : List (Nat × Nat)} (h1 : (P.info? ty).bind (·.zero) = some (.agg zs.toArray) := by kernel_rfl) (h2 : placesOf P ty = some pl := by kernel_rfl)
    (h3 : ((P.underlying ty).bind fun | .struct fs => some (fs.toList.all fun f => (P.info? f.type).isSome) | _ => none) = some true := by kernel_rfl) (h4 : zs.all Value.oneCell' = true := by rfl) : StructT P ty (zs.map T.c) pl := by
  obtain ⟨inf, e1, e2⟩ := Option.bind_eq_some_iff.1 h1
  refine ⟨⟨zs, inf, e1, e2, fun β u => cells_c h4⟩, h2, ?_⟩
  obtain ⟨d, hd, hf⟩ := Option.bind_eq_some_iff.1 h3
  cases d with
  | struct fs =>
    simp only [Option.some.injEq, List.all_eq_true] at hf
    exact ⟨fs, hd, fun f hm => Option.isSome_iff_exists.1 (hf f (by simpa using hm))⟩
  | _ => cases hf
theorem zero_of {P : Program} {ty : TypeId} {zs : List Value} {z : Value} (h1 : (P.info? ty).bind (·.zero) = some z) (h2 : z.cells = zs.toArray := by rfl) (h4 : zs.all Value.oneCell' = true := by rfl) : Zero P ty (zs.map T.c) := by
  obtain ⟨inf, e1, e2⟩ := Option.bind_eq_some_iff.1 h1
  refine ⟨zs, fun w => ?_, fun β u => cells_c h4⟩
  simp [Instr.alloc, zeroValue, typeInfo, e1, e2, newVar, newRow, h2]
section
variable {P : Program} {ops : Array Oper} {fin : List OpS → List (Nat × T) → List (Nat × Option Ent) → Prop} {r : List Oper} {H : List OpS} {g : List (Nat × T)} {E : List (Nat × Option Ent)} {o : Oper}
variable {t : Option Nat} {ty : TypeId} {ps : String} {af : Array Edge} {gd : Option (Nat × Bool)} {x y : Operand} {X Y : T} {e off m : Nat} {b : Bool} {l l' : List T} {et : TypeId}
/-- A field's place in a box. -/
theorem fa {k o1 : Nat} (hX : envl g x = some (T.p e off)) (hF : FieldT P et k o1 b m) (off' : Nat) (hn : J P ops fin r (OpS.p (T.p e off') :: H) (putg t (T.p e off') g) E) (ho : off + o1 = off' := by rfl) (hg : GuardIs ops g ⟨t, .fieldAddr et x k, ty, ps, af, gd⟩ true := by exact gd0) : J P ops fin (⟨t, .fieldAddr et x k, ty, ps, af, gd⟩ :: r) H g E :=
  j_val hg (ok_pure fun ρ β u w F hs he hH => by
    obtain ⟨p, h1, h2⟩ := he x (by simp [Op.operands]) _ hX
    exact ⟨pt p off', by simp only [execOp, h2, Sem.run_bind, run_fieldAt hF, add_none, ho, Result.andThen_ok, Sem.run_pure], p, h1, rfl⟩) hn
/-- A field. -/
theorem fd {k : Nat} [hsp : Sp X l] (hX : envl g x = some X) (hf : FieldT P et k off b m) (hF : fieldT b l off m = some Y) (hn : J P ops fin r (OpS.p Y :: H) (putg t Y g) E) (hg : GuardIs ops g ⟨t, .field et x k, ty, ps, af, gd⟩ true := by exact gd0) : J P ops fin (⟨t, .field et x k, ty, ps, af, gd⟩ :: r) H g E :=
  j_val hg (ok_pure fun ρ β u w F hs he hH => by
    obtain ⟨cs, h1, h2⟩ := hsp.le _ _ _ (he x (by simp [Op.operands]) _ hX)
    obtain ⟨c1, c2⟩ := h2.field hF
    exact ⟨_, by simp only [execOp, h1, Sem.run_bind, run_field hf w c1, Result.andThen_ok, Sem.run_pure], c2⟩) hn
/-- A field's place in what stands for good. -/
theorem ff {k : Nat} [hsp : Sp X l] (hX : envl g x = some (T.fp X)) (hf : FieldT P et k off b m) (hF : fieldT b l off m = some Y) (hn : J P ops fin r (OpS.p (T.fp Y) :: H) (putg t (T.fp Y) g) E) (hY : Nat.beq Y.sz 0 = false := by rfl) (hg : GuardIs ops g ⟨t, .fieldAddr et x k, ty, ps, af, gd⟩ true := by exact gd0) : J P ops fin (⟨t, .fieldAddr et x k, ty, ps, af, gd⟩ :: r) H g E :=
  j_val hg (ok_pure fun ρ β u w F hs he hH => by
    obtain ⟨ad, v, h2, _, h3, h4⟩ := he x (by simp [Op.operands]) _ hX
    obtain ⟨cs, e1, h5⟩ := hsp.le _ _ _ h3
    obtain ⟨c1, c2⟩ := h5.field hF
    have hl : ((cs.drop off).take m).length = m := by rw [List.length_take, List.length_drop]; omega
    have e2 : (asVal b ((cs.drop off).take m)).cells.toList = (cs.drop off).take m := asVal_cells (m := m) (fun e => by have := hf.one; rw [e] at this; simpa using this) hl (List.all_eq_true.2 fun z hz => List.all_eq_true.1 h5.flat.2 z (List.mem_of_mem_drop (List.mem_of_mem_take hz)))
    refine ⟨_, by simp only [execOp, h2, Sem.run_bind, run_fieldAt hf, Result.andThen_ok, Sem.run_pure], ad.add off, _, rfl, (fun h => by rw [h] at hY; cases hY), c2, ?_⟩
    rw [e2]
    subst e1
    exact h4.at2 (p := cs.take off) (q := (cs.drop off).drop m) (by simp only [Value.cells]; rw [List.append_assoc, List.take_append_drop, List.take_append_drop]) (by simp; omega)) hn
/-! structs put together -/
def puts (g : List (Nat × T)) (pl : List (Nat × Nat)) : List T → List (Nat × Operand) → Option (List T)
  | l, [] => some l
  | l, (i, x) :: r => match pl[i]?, envl g x with
    | some (off, sz), some X => bif Nat.beq X.sz sz && !(Nat.beq sz 0) then (match putC l off X with | some l' => puts g pl l' r | none => none) else none
    | _, _ => none
theorem foldl_patch : ∀ (vs : List Value) (off k : Nat) (cs : Array Value), off + k + vs.length ≤ cs.size → (vs.zipIdx k).foldl (fun cs (p : Value × Nat) => cs.setIfInBounds (off + p.2) p.1) cs = (cs.toList.take (off + k) ++ vs ++ cs.toList.drop (off + k + vs.length)).toArray
  | [], off, k, cs, h => by simp
  | v :: r, off, k, cs, h => by
    rw [List.zipIdx_cons, List.foldl_cons, foldl_patch r off (k + 1) _ (by simp at h ⊢; omega)]
    simp only [Array.toList_setIfInBounds, List.length_cons]
    congr 1
    have hlt : off + k < cs.toList.length := by simp at h ⊢; omega
    rw [show off + (k + 1) = (off + k) + 1 by omega, List.take_succ_eq_append_getElem (by simpa using hlt), List.take_set_of_le (Nat.le_refl _), List.drop_set_of_lt (by omega)]
    simp [show off + k + (r.length + 1) = off + k + 1 + r.length by omega]
theorem fill_puts {β : Env} {u : World} {ρ : Operand → Value} {pl : List (Nat × Nat)} {place : Nat → Option (Nat × Nat)} (hpl0 : ∀ i q, pl[i]? = some q → place i = some q) : ∀ {parts : List (Nat × Operand)} {l l' : List T} {cs : List Value}, puts g pl l parts = some l' → (∀ p ∈ parts, ∀ Y, envl g p.2 = some Y → Y.rep β u (ρ p.2)) → Cells β u l cs →
    ∃ cs', Instr.fill place cs.toArray (parts.map fun p => (p.1, ρ p.2)) = some (List.toArray cs') ∧ Cells β u l' cs'
  | [], l, l', cs, h, _, hc => by cases h; exact ⟨cs, rfl, hc⟩
  | (i, x) :: r, l, l', cs, h, he, hc => by
    unfold puts at h
    split at h
    · rename_i off sz X h1 h2
      cases hb : (Nat.beq X.sz sz && !(Nat.beq sz 0)) with
      | false => rw [hb] at h; cases h
      | true =>
        rw [hb] at h
        simp only [Bool.and_eq_true, Bool.not_eq_true'] at hb
        have hsz : X.sz = sz := Nat.eq_of_beq_eq_true hb.1
        have h0 : X.sz ≠ 0 := fun e => by rw [e] at hsz; subst hsz; cases hb.2
        simp only [cond_true] at h
        cases hp : putC l off X with
        | none => rw [hp] at h; cases h
        | some l1 =>
          rw [hp] at h
          have hr := he (i, x) List.mem_cons_self X h2
          obtain ⟨c1, c2⟩ := hc.put hr h0 hp
          have hf := (X.shp hr h0).1
          obtain ⟨cs', k1, k2⟩ := fill_puts hpl0 (parts := r) h (fun p hp => he p (List.mem_cons_of_mem _ hp)) c2
          refine ⟨cs', ?_, k2⟩
          have hl1 : (ρ x).cells.size = sz := by rw [← hsz]; simpa using hf.1
          have hpl : place i = some (off, sz) := hpl0 i _ h1
          show (match place i with | none => none | some (off, size) => _) = _
          rw [hpl]
          simp only
          have hcs : (decide ((ρ x).cells.size ≠ sz) || decide (off + (ρ x).cells.size > cs.toArray.size)) = false := by
            simp [hl1]; omega
          rw [hcs]
          simp only [Bool.false_eq_true, if_false]
          rw [← k1]
          congr 1
          have := foldl_patch (ρ x).cells.toList off 0 cs.toArray (by simp [hl1]; omega)
          rw [← Array.foldl_toList, Array.toList_zipIdx]
          simpa [patch] using this
    · cases h
theorem run_build {pl : List (Nat × Nat)} {lz : List T} (hS : StructT P et lz pl) {parts : Array (Nat × Operand)} (hp : puts g pl lz parts.toList = some l') {β : Env} {u w : World} {ρ : Operand → Value} (he : ∀ p ∈ parts, ∀ Y, envl g p.2 = some Y → Y.rep β u (ρ p.2)) : ∃ cs, (Instr.build et (parts.map fun p => (p.1, ρ p.2))).run P w = .ok (.agg (List.toArray cs)) w ∧ Cells β u l' cs := by
  obtain ⟨zs, inf, h1, h2, h3⟩ := hS.zero
  obtain ⟨fs, k1, k2⟩ := hS.sizes
  have hpl := hS.places
  unfold placesOf at hpl
  rw [k1] at hpl
  simp only [Option.bind_some, Option.some.injEq] at hpl
  obtain ⟨cs, q1, q2⟩ := fill_puts (place := (pl.toArray[·]?)) (fun i q h => by simpa using h) hp (fun p hp => he p (by simpa using hp)) (h3 β u)
  refine ⟨cs, ?_, q2⟩
  have hm : ∀ (w : World), (fs.mapM fun f => do pure (f.offset, ← sizeOf f.type) : Sem (Array (Nat × Nat))).run P w = .ok pl.toArray w := fun w => by
    rw [← hpl, Array.mapM_eq_mapM_toList]
    have key : ∀ l : List Field, (∀ f ∈ l, ∃ inf, P.info? f.type = some inf) → (l.mapM (fun f => do pure (f.offset, ← sizeOf f.type)) : Sem (List (Nat × Nat))).run P w = .ok (l.map fun f => (f.offset, ((P.info? f.type).map (·.size)).getD 0)) w := by
      intro l
      induction l with
      | nil => intro _; rfl
      | cons f r ih =>
        intro h
        obtain ⟨inf, hi⟩ := h f List.mem_cons_self
        have h1 : (do pure (f.offset, ← sizeOf f.type) : Sem (Nat × Nat)).run P w = .ok (f.offset, inf.size) w := by simp [sizeOf, typeInfo, hi]
        rw [List.mapM_cons, Sem.run_bind, h1, Result.andThen_ok, Sem.run_bind, ih (fun f hf => h f (List.mem_cons_of_mem _ hf)), Result.andThen_ok]
        simp [hi]
    show (Bind.bind (fs.toList.mapM fun f => do pure (f.offset, ← sizeOf f.type)) (fun a => pure a.toArray) : Sem (Array (Nat × Nat))).run P w = _
    rw [Sem.run_bind, key fs.toList (fun f hf => k2 f (by simpa using hf))]
    rfl
  have hz : (zeroValue et).run P w = .ok (.agg zs.toArray) w := by simp [zeroValue, typeInfo, h1, h2]
  unfold Instr.build
  simp only [Sem.run_bind, hz, Result.andThen_ok, run_underlying k1, hm]
  rw [show (parts.map fun p => (p.1, ρ p.2)).toList = parts.toList.map fun p => (p.1, ρ p.2) by simp]
  simp only [Value.cells]
  rw [q1]
  rfl
theorem bu {pl : List (Nat × Nat)} {lz : List T} {parts : Array (Nat × Operand)} (hS : StructT P et lz pl) (hp : puts g pl lz parts.toList = some l') (hn : J P ops fin r (OpS.p (T.st l') :: H) (putg t (T.st l') g) E) (hg : GuardIs ops g ⟨t, .build et parts, ty, ps, af, gd⟩ true := by exact gd0) : J P ops fin (⟨t, .build et parts, ty, ps, af, gd⟩ :: r) H g E :=
  j_val hg (ok_pure fun ρ β u w F hs he hH => by
    obtain ⟨cs, h1, h2⟩ := run_build (w := w) (ρ := ρ) hS hp (fun p hp Y hY => he p.2 (by simp only [Op.operands]; exact by simpa using ⟨p.1, by simpa using hp⟩) Y hY)
    exact ⟨_, by simp only [execOp, Sem.run_bind, h1, Result.andThen_ok, Sem.run_pure], cs, rfl, h2⟩) hn
theorem ci {kk : IntKind} {a b : Int} (h : a = b) : (T.c (.int kk a)).le (T.c (.int kk b)) := .of (by rw [h])
/-! whole numbers of the machine -/
def rgK : IntKind → Option (Int × Int)
  | .i64 => some (-9223372036854775808, 9223372036854775807)
  | .u64 => some (0, 18446744073709551615)
  | .u32 => some (0, 4294967295)
  | _ => none
theorem rgK_wrap {kk : IntKind} {z lo hi : Int} (h : rgK kk = some (lo, hi)) (hz : lo ≤ z ∧ z ≤ hi) : kk.wrap z = z := by
  cases kk <;> cases h
  · exact IntWalk.i64_in _ hz
  · exact IntWalk.u32_in _ hz
  · exact IntWalk.u64_in _ hz
theorem beq_dec (a b : Int) : (a == b) = decide (a = b) := by rw [Bool.eq_iff_iff]; simp
theorem bne_dec (a b : Int) : (a != b) = !decide (a = b) := by rw [Bool.eq_iff_iff]; simp
/-- An operation on known things. -/
theorem bop {op : BinOp} {t1 t2 : TypeId} {a b c : Value} (hX : envl g x = some (T.c a)) (hY : envl g y = some (T.c b)) (hr : ∀ (ρ : Operand → Value) w, ρ x = a → ρ y = b → (execOp ρ ⟨t, .binOp op t1 x y t2, ty, ps, af, gd⟩).run P w = .ok (.value c) w) (hn : J P ops fin r (OpS.p (T.c c) :: H) (putg t (T.c c) g) E) (hg : GuardIs ops g ⟨t, .binOp op t1 x y t2, ty, ps, af, gd⟩ true := by exact gd0) : J P ops fin (⟨t, .binOp op t1 x y t2, ty, ps, af, gd⟩ :: r) H g E :=
  j_val hg (ok_pure fun ρ β u w F hs he hH => ⟨c, hr ρ w (he x (by simp [Op.operands]) _ hX) (he y (by simp [Op.operands]) _ hY), rfl⟩) hn
theorem uop {op : UnOp} {t1 : TypeId} {a c : Value} (hX : envl g x = some (T.c a)) (hr : ∀ (ρ : Operand → Value) w, ρ x = a → (execOp ρ ⟨t, .unOp op t1 x, ty, ps, af, gd⟩).run P w = .ok (.value c) w) (hn : J P ops fin r (OpS.p (T.c c) :: H) (putg t (T.c c) g) E) (hg : GuardIs ops g ⟨t, .unOp op t1 x, ty, ps, af, gd⟩ true := by exact gd0) : J P ops fin (⟨t, .unOp op t1 x, ty, ps, af, gd⟩ :: r) H g E :=
  j_val hg (ok_pure fun ρ β u w F hs he hH => ⟨c, hr ρ w (he x (by simp [Op.operands]) _ hX), rfl⟩) hn
theorem ad {t1 t2 : TypeId} {kk : IntKind} {a b lo hi : Int} (z : Int) (hX : envl g x = some (T.c (.int kk a))) (hY : envl g y = some (T.c (.int kk b))) (hk : rgK kk = some (lo, hi)) (hz : a + b = z ∧ lo ≤ z ∧ z ≤ hi) (hn : J P ops fin r (OpS.p (T.c (.int kk z)) :: H) (putg t (T.c (.int kk z)) g) E) (hg : GuardIs ops g ⟨t, .binOp .add t1 x y t2, ty, ps, af, gd⟩ true := by exact gd0) : J P ops fin (⟨t, .binOp .add t1 x y t2, ty, ps, af, gd⟩ :: r) H g E :=
  bop hX hY (fun ρ w h1 h2 => by simp [execOp, h1, h2, eqGuard, binOp, Op.intArith, hz.1, rgK_wrap hk hz.2]) hn hg
theorem sb {t1 t2 : TypeId} {kk : IntKind} {a b lo hi : Int} (z : Int) (hX : envl g x = some (T.c (.int kk a))) (hY : envl g y = some (T.c (.int kk b))) (hk : rgK kk = some (lo, hi)) (hz : a - b = z ∧ lo ≤ z ∧ z ≤ hi) (hn : J P ops fin r (OpS.p (T.c (.int kk z)) :: H) (putg t (T.c (.int kk z)) g) E) (hg : GuardIs ops g ⟨t, .binOp .sub t1 x y t2, ty, ps, af, gd⟩ true := by exact gd0) : J P ops fin (⟨t, .binOp .sub t1 x y t2, ty, ps, af, gd⟩ :: r) H g E :=
  bop hX hY (fun ρ w h1 h2 => by simp [execOp, h1, h2, eqGuard, binOp, Op.intArith, hz.1, rgK_wrap hk hz.2]) hn hg
theorem ml {t1 t2 : TypeId} {kk : IntKind} {a b lo hi : Int} (z : Int) (hX : envl g x = some (T.c (.int kk a))) (hY : envl g y = some (T.c (.int kk b))) (hk : rgK kk = some (lo, hi)) (hz : a * b = z ∧ lo ≤ z ∧ z ≤ hi) (hn : J P ops fin r (OpS.p (T.c (.int kk z)) :: H) (putg t (T.c (.int kk z)) g) E) (hg : GuardIs ops g ⟨t, .binOp .mul t1 x y t2, ty, ps, af, gd⟩ true := by exact gd0) : J P ops fin (⟨t, .binOp .mul t1 x y t2, ty, ps, af, gd⟩ :: r) H g E :=
  bop hX hY (fun ρ w h1 h2 => by simp [execOp, h1, h2, eqGuard, binOp, Op.intArith, hz.1, rgK_wrap hk hz.2]) hn hg
theorem clt {t1 t2 : TypeId} {kk : IntKind} {a b : Int} {q : Bool} (hX : envl g x = some (T.c (.int kk a))) (hY : envl g y = some (T.c (.int kk b))) (hq : decide (a < b) = q) (hn : J P ops fin r (OpS.p (T.c (.bool q)) :: H) (putg t (T.c (.bool q)) g) E) (hg : GuardIs ops g ⟨t, .binOp .lss t1 x y t2, ty, ps, af, gd⟩ true := by exact gd0) : J P ops fin (⟨t, .binOp .lss t1 x y t2, ty, ps, af, gd⟩ :: r) H g E :=
  bop hX hY (fun ρ w h1 h2 => by simp [execOp, h1, h2, eqGuard, binOp, Op.intCmp, Op.equal, beq_dec, bne_dec, ← hq]) hn hg
theorem cle {t1 t2 : TypeId} {kk : IntKind} {a b : Int} {q : Bool} (hX : envl g x = some (T.c (.int kk a))) (hY : envl g y = some (T.c (.int kk b))) (hq : decide (a ≤ b) = q) (hn : J P ops fin r (OpS.p (T.c (.bool q)) :: H) (putg t (T.c (.bool q)) g) E) (hg : GuardIs ops g ⟨t, .binOp .leq t1 x y t2, ty, ps, af, gd⟩ true := by exact gd0) : J P ops fin (⟨t, .binOp .leq t1 x y t2, ty, ps, af, gd⟩ :: r) H g E :=
  bop hX hY (fun ρ w h1 h2 => by simp [execOp, h1, h2, eqGuard, binOp, Op.intCmp, Op.equal, beq_dec, bne_dec, ← hq]) hn hg
theorem cgt {t1 t2 : TypeId} {kk : IntKind} {a b : Int} {q : Bool} (hX : envl g x = some (T.c (.int kk a))) (hY : envl g y = some (T.c (.int kk b))) (hq : decide (b < a) = q) (hn : J P ops fin r (OpS.p (T.c (.bool q)) :: H) (putg t (T.c (.bool q)) g) E) (hg : GuardIs ops g ⟨t, .binOp .gtr t1 x y t2, ty, ps, af, gd⟩ true := by exact gd0) : J P ops fin (⟨t, .binOp .gtr t1 x y t2, ty, ps, af, gd⟩ :: r) H g E :=
  bop hX hY (fun ρ w h1 h2 => by simp [execOp, h1, h2, eqGuard, binOp, Op.intCmp, Op.equal, beq_dec, bne_dec, ← hq]) hn hg
theorem cge {t1 t2 : TypeId} {kk : IntKind} {a b : Int} {q : Bool} (hX : envl g x = some (T.c (.int kk a))) (hY : envl g y = some (T.c (.int kk b))) (hq : decide (b ≤ a) = q) (hn : J P ops fin r (OpS.p (T.c (.bool q)) :: H) (putg t (T.c (.bool q)) g) E) (hg : GuardIs ops g ⟨t, .binOp .geq t1 x y t2, ty, ps, af, gd⟩ true := by exact gd0) : J P ops fin (⟨t, .binOp .geq t1 x y t2, ty, ps, af, gd⟩ :: r) H g E :=
  bop hX hY (fun ρ w h1 h2 => by simp [execOp, h1, h2, eqGuard, binOp, Op.intCmp, Op.equal, beq_dec, bne_dec, ← hq]) hn hg
theorem ceq {t1 t2 : TypeId} {kk : IntKind} {a b : Int} {q : Bool} (hX : envl g x = some (T.c (.int kk a))) (hY : envl g y = some (T.c (.int kk b))) (hq : decide (a = b) = q) (hn : J P ops fin r (OpS.p (T.c (.bool q)) :: H) (putg t (T.c (.bool q)) g) E) (hg : GuardIs ops g ⟨t, .binOp .eql t1 x y t2, ty, ps, af, gd⟩ true := by exact gd0) : J P ops fin (⟨t, .binOp .eql t1 x y t2, ty, ps, af, gd⟩ :: r) H g E :=
  bop hX hY (fun ρ w h1 h2 => by simp [execOp, h1, h2, eqGuard, binOp, Op.intCmp, Op.equal, beq_dec, bne_dec, ← hq]) hn hg
theorem cne {t1 t2 : TypeId} {kk : IntKind} {a b : Int} {q : Bool} (hX : envl g x = some (T.c (.int kk a))) (hY : envl g y = some (T.c (.int kk b))) (hq : decide (a ≠ b) = q) (hn : J P ops fin r (OpS.p (T.c (.bool q)) :: H) (putg t (T.c (.bool q)) g) E) (hg : GuardIs ops g ⟨t, .binOp .neq t1 x y t2, ty, ps, af, gd⟩ true := by exact gd0) : J P ops fin (⟨t, .binOp .neq t1 x y t2, ty, ps, af, gd⟩ :: r) H g E :=
  bop hX hY (fun ρ w h1 h2 => by simp [execOp, h1, h2, eqGuard, binOp, Op.intCmp, Op.equal, beq_dec, bne_dec, ← hq]) hn hg
theorem nt {t1 : TypeId} {a : Bool} (hX : envl g x = some (T.c (.bool a))) (q : Bool) (hq : (!a) = q) (hn : J P ops fin r (OpS.p (T.c (.bool q)) :: H) (putg t (T.c (.bool q)) g) E) (hg : GuardIs ops g ⟨t, .unOp .not t1 x, ty, ps, af, gd⟩ true := by exact gd0) : J P ops fin (⟨t, .unOp .not t1 x, ty, ps, af, gd⟩ :: r) H g E :=
  uop hX (fun ρ w h1 => by simp [execOp, h1, Op.unary, hq]) hn hg
theorem ng {t1 : TypeId} {kk : IntKind} {a lo hi : Int} (z : Int) (hX : envl g x = some (T.c (.int kk a))) (hk : rgK kk = some (lo, hi)) (hz : 0 - a = z ∧ lo ≤ z ∧ z ≤ hi) (hn : J P ops fin r (OpS.p (T.c (.int kk z)) :: H) (putg t (T.c (.int kk z)) g) E) (hg : GuardIs ops g ⟨t, .unOp .neg t1 x, ty, ps, af, gd⟩ true := by exact gd0) : J P ops fin (⟨t, .unOp .neg t1 x, ty, ps, af, gd⟩ :: r) H g E :=
  uop hX (fun ρ w h1 => by simp only [execOp, h1, Op.unary, Op.intArith, hz.1, rgK_wrap hk hz.2]; rfl) hn hg
/-- pick. -/
theorem pk {z : Operand} {a : Bool} (hX : envl g z = some (T.c (.bool a))) (hY : envl g (if a then x else y) = some X) (hn : J P ops fin r (OpS.p X :: H) (putg t X g) E) (hg : GuardIs ops g ⟨t, .pick z x y, ty, ps, af, gd⟩ true := by exact gd0) : J P ops fin (⟨t, .pick z x y, ty, ps, af, gd⟩ :: r) H g E :=
  j_val hg (ok_pure fun ρ β u w F hs he hH => by
    have h1 : ρ z = .bool a := he z (by simp [Op.operands]) _ hX
    refine ⟨ρ (if a then x else y), by cases a <;> simp [execOp, h1, asBool], he _ (by cases a <;> simp [Op.operands]) X hY⟩) hn
end
end Go.Proofs.YtekghdfbhbhigaaGreat.V
/- A logic of calls: closures, slices made and cut, rows made, frozen. -/
set_option linter.unusedVariables false
set_option linter.unusedSimpArgs false
namespace Go.Proofs.YtekghdfbhbhigaaGreat.V
open Go.RowKit

/-- A function value with what it captured. -/
def T.fn (f : FuncId) (caps : List T) : T := ⟨caps.flatMap (·.ns), 1, false, fun β u v => ∃ cs : List Value, v = .func (.func f) #[] cs.toArray ∧ Reps β u caps cs, fun ⟨cs, e, _⟩ _ => by subst e; exact ⟨⟨rfl, rfl⟩, rfl⟩, fun hs ⟨cs, e, h⟩ => ⟨cs, e, h.mono hs⟩, fun hn ⟨cs, e, h⟩ => ⟨cs, e, h.ext hn⟩⟩
/-- Some value of one cell. -/
def T.any : T := ⟨[], 1, false, fun _ _ v => v.oneCell' = true, fun h _ => by have := (one_sz h).2; exact ⟨⟨by rw [this]; rfl, by rw [this]; simpa using h⟩, by rw [this]; rfl⟩, fun _ h => h, fun _ h => h⟩
theorem cells_any {β : Env} {u : World} : ∀ {cs : List Value}, cs.all Value.oneCell' = true → Cells β u (List.replicate cs.length T.any) cs
  | [], _ => rfl
  | z :: r, h => by
    simp only [List.all_cons, Bool.and_eq_true] at h
    exact ⟨z, r, by show (1 : Nat) ≠ 0; omega, h.1, by rw [(one_sz h.1).2]; rfl, cells_any h.2⟩
theorem els_of {α : Type} {c : Cod α} {β : Env} {u : World} : ∀ {l : List T} {xs : List α} {cs : List Value}, Cells β u l cs → LeL l (xs.map c.X) → Els c xs u cs
  | [], [], _, h, _ => h
  | X :: r, a :: s, cs, ⟨v, rest, h0, h1, e, h2⟩, ⟨k1, k2⟩ => ⟨v, rest, by rw [c.sz0]; exact c.pos, c.any (k1 _ _ _ h1), e, els_of h2 k2⟩
  | [], _ :: _, _, _, k => k.elim
  | _ :: _, [], _, _, k => k.elim
section
variable {P : Program} {ops : Array Oper} {fin : List OpS → List (Nat × T) → List (Nat × Option Ent) → Prop} {r : List Oper} {H : List OpS} {g : List (Nat × T)} {E : List (Nat × Option Ent)} {o : Oper}
variable {t : Option Nat} {ty : TypeId} {ps : String} {af : Array Edge} {gd : Option (Nat × Bool)} {x y : Operand} {X Y : T} {e off m : Nat} {b : Bool} {l l' : List T} {et : TypeId}
variable {α : Type} {c : Cod α} {xs ys : List α}
/-- A closure is made. -/
theorem mf {f : FuncId} {cs : Array Operand} {As : List T} (hA : envs g cs.toList = some As) (hn : J P ops fin r (OpS.p (T.fn f As) :: H) (putg t (T.fn f As) g) E) (hg : GuardIs ops g ⟨t, .makeFunc (.func f) #[] cs, ty, ps, af, gd⟩ true := by exact gd0) : J P ops fin (⟨t, .makeFunc (.func f) #[] cs, ty, ps, af, gd⟩ :: r) H g E :=
  j_val hg (ok_pure fun ρ β u w F hs he hH => by
    refine ⟨.func (.func f) #[] (cs.map ρ), by simp [execOp, Instr.makeFunc], cs.toList.map ρ, by congr 1; apply Array.ext'; simp, envs_reps hA (fun x hx Y hY => he x ?_ Y hY)⟩
    show x ∈ (#[] ++ cs : Array Operand)
    simpa using hx) hn
/-- A closure is called. -/
theorem cf {f : FuncId} {zs : Array Operand} {tys : Array TypeId} {As Bs : List T} (hX : envl g x = some (T.fn f Bs)) (hA : envs g zs.toList = some As) (h : Fn P f (As ++ Bs) [] [] [] X) (hen : Enters P f) (hn : J P ops fin r (OpS.p X :: H) (putg t X g) E)
    (hg : GuardIs ops g ⟨t, .call ⟨.value x, zs, tys⟩, ty, ps, af, gd⟩ true := by exact gd0) : J P ops fin (⟨t, .call ⟨.value x, zs, tys⟩, ty, ps, af, gd⟩ :: r) H g E :=
  j_val hg (fun ρ β u w F hs he hH => by
    obtain ⟨cs, h1, h2⟩ := he x (show x ∈ (#[x] ++ zs : Array Operand) from by simp) _ hX
    have hre := envs_reps (β := β) (u := u) (ρ := ρ) hA (fun y hy Y hY => he y (show y ∈ (#[x] ++ zs : Array Operand) from Array.mem_append_right _ (by simpa using hy)) Y hY)
    have happ : ∀ {a b : List T} {v s : List Value}, Reps β u a v → Reps β u b s → Reps β u (a ++ b) (v ++ s) := fun {a} => by
      induction a with
      | nil => intro b v s h k; cases v with
        | nil => exact k
        | cons _ _ => exact h.elim
      | cons Z q ih => intro b v s h k; cases v with
        | nil => exact h.elim
        | cons z p => exact ⟨h.1, ih h.2 k⟩
    have := h _ β u w F hs (happ hre h2) (Hold.none _ _ _ _)
    unfold Res
    rw [show (execOp ρ ⟨t, .call ⟨.value x, zs, tys⟩, ty, ps, af, gd⟩).run P w = .ok (.enter f (zs.toList.map ρ ++ cs).toArray) w from by
      simp only [execOp, resolve, h1, Deferred.ofValue, Sem.run_bind, Sem.run_pure, Result.andThen_ok, invoke, hen _ w]
      congr 2
      apply Array.ext'; simp]
    exact this) hn
def plE (sz : Nat) : Nat → Nat → List (Nat × Nat)
  | 0, _ => []
  | n + 1, off => (off, sz) :: plE sz n (off + sz)
theorem plE_at {sz : Nat} : ∀ {n i off : Nat} {q : Nat × Nat}, (plE sz n off)[i]? = some q → q = (off + i * sz, sz)
  | 0, _, _, _, h => by simp [plE] at h
  | n + 1, 0, off, q, h => by simp [plE] at h; simp [← h]
  | n + 1, i + 1, off, q, h => by
    have := plE_at (n := n) (i := i) (off := off + sz) (q := q) (by simpa [plE] using h)
    rw [this, Nat.add_mul]
    congr 1
    omega
theorem run_buildSlice {τ : TypeId} {sz bytes n : Nat} {parts : Array (Nat × Operand)} (hT : SlT P et τ sz bytes) (hp : puts g (plE sz n 0) (List.replicate (n * sz) T.any) parts.toList = some l') (hsm : n * sz ≤ 16777216) (hpos : n * sz ≠ 0) {β : Env} {u w : World} {ρ : Operand → Value} (he : ∀ p ∈ parts, ∀ Y, envl g p.2 = some Y → Y.rep β u (ρ p.2)) :
    ∃ cs, (Instr.buildSlice et n (parts.map fun p => (p.1, ρ p.2))).run P w = .ok (.slice (some ⟨w.heap.size, 0, none⟩) n n) (w.alloc (.cells (List.toArray cs) τ (0, 0))) ∧ Cells β u l' cs := by
  obtain ⟨ht, z, hz, hzc, hz1⟩ := hT
  obtain ⟨inf, hi, hzz⟩ := Option.map_eq_some_iff.1 hz
  simp only [Prod.mk.injEq] at hzz
  obtain ⟨q0, q1, q2⟩ := hzz
  have hc0 : ∀ k ∈ ((Array.range (n * sz)).map (z.cells[· % z.cells.size]!)).toList, k.oneCell' = true := fun k hk => by
    simp only [Array.toList_map, List.mem_map] at hk
    obtain ⟨i, _, rfl⟩ := hk
    have hsz : 0 < z.cells.size := by rw [hzc]; exact Nat.pos_of_ne_zero (fun h => hpos (by rw [h, Nat.mul_zero]))
    have hlt : i % z.cells.size < z.cells.size := Nat.mod_lt _ hsz
    rw [getElem!_pos z.cells _ hlt]
    exact List.all_eq_true.1 hz1 _ (by simp)
  have hc := cells_any (β := β) (u := u) (List.all_eq_true.2 hc0)
  rw [show ((Array.range (n * sz)).map (z.cells[· % z.cells.size]!)).toList.length = n * sz by simp] at hc
  obtain ⟨cs, k1, k2⟩ := fill_puts (place := fun i => some (i * sz, sz)) (fun i q h => by rw [plE_at h]; simp) hp (fun p hp => he p (by simpa using hp)) hc
  refine ⟨cs, ?_, k2⟩
  have hsf : (sizeOf τ).run P w = .ok sz w := by simp [sizeOf, typeInfo, hi, q1]
  have hzv : (zeroValue τ).run P w = .ok z w := by simp [zeroValue, typeInfo, hi, q0]
  unfold Instr.buildSlice
  simp only [Sem.run_bind, run_underlying ht, Result.andThen_ok, hsf]
  rw [if_neg (by omega)]
  simp only [Sem.run_bind, Sem.run_pure, Result.andThen_ok, if_neg hpos, hzv]
  rw [show (parts.map fun p => (p.1, ρ p.2)).toList = parts.toList.map fun p => (p.1, ρ p.2) by simp]
  rw [Array.toArray_toList] at k1
  rw [k1]
  simp [newRow]
/-- A slice of things that are told, for good. -/
theorem bs {τ : TypeId} {bytes n : Nat} {parts : Array (Nat × Operand)} (hT : SlT P et τ c.sz bytes) (hp : puts g (plE c.sz n 0) (List.replicate (n * c.sz) T.any) parts.toList = some l') (hl : LeL l' (xs.map c.X)) (hn : J P ops fin r (OpS.p (T.l c xs) :: H) (putg t (T.l c xs) g) E) (hm : (Nat.beq xs.length n && Nat.ble (n * c.sz) 16777216 && !Nat.beq (n * c.sz) 0) = true := by rfl) (hg : GuardIs ops g ⟨t, .buildSlice et n parts, ty, ps, af, gd⟩ true := by exact gd0) : J P ops fin (⟨t, .buildSlice et n parts, ty, ps, af, gd⟩ :: r) H g E := by
  simp only [Bool.and_eq_true, Bool.not_eq_true'] at hm
  obtain ⟨⟨h1, h2⟩, h3⟩ := hm
  have h1 := Nat.eq_of_beq_eq_true h1
  have h2 := Nat.le_of_ble_eq_true h2
  have h3 : n * c.sz ≠ 0 := fun h => by rw [h] at h3; cases h3
  exact j_val hg (fun ρ β u w F hs he hH => by
    obtain ⟨cs, k1, k2⟩ := run_buildSlice (w := w) (ρ := ρ) hT hp h2 h3 (fun p hp Y hY => he p.2 (by simp only [Op.operands]; exact by simpa using ⟨p.1, by simpa using hp⟩) Y hY)
    have hE := els_of k2 hl
    unfold Res
    simp only [execOp, Sem.run_bind, k1, Result.andThen_ok, Sem.run_pure]
    refine after_solid hs (fun u' hu hc => ⟨some ⟨w.heap.size, 0, none⟩, n, n, rfl, h1, Nat.le_refl _, by have : n ≤ n * c.sz := Nat.le_mul_of_pos_right _ (Nat.pos_of_ne_zero c.pos); omega, fun _ => ⟨_, rfl, cs, hE.mono hu, fun j y hy => ?_⟩⟩)
    rw [add_none, Nat.zero_add]
    exact hc j y (by simpa using hy)) hn
theorem replicate_made {z : Value} {sz : Nat} (h : z.cells.size = sz) (h0 : sz ≠ 0) (n : Nat) : (madeCells z.cells (n * sz)).toList = (List.replicate n z.cells.toList).flatten := by
  apply List.ext_getElem?
  intro j
  by_cases hj : j < n * sz
  · have e1 : (madeCells z.cells (n * sz)).toList[j]? = some (z.cells[j % z.cells.size]!) := by
      simp only [madeCells, Array.toList_map, List.getElem?_map, Array.toList_range]
      rw [List.getElem?_range hj]; rfl
    have hlt : j % sz < z.cells.size := by rw [h]; exact Nat.mod_lt _ (Nat.pos_of_ne_zero h0)
    rw [e1, h, getElem!_pos z.cells _ hlt]
    have key : ∀ (n j : Nat), j < n * sz → (List.replicate n z.cells.toList).flatten[j]? = z.cells.toList[j % sz]? := by
      intro n
      induction n with
      | zero => intro j hj; omega
      | succ n ih =>
        intro j hj
        rw [List.replicate_succ, List.flatten_cons, List.getElem?_append]
        have hl : z.cells.toList.length = sz := by simpa using h
        rw [hl]
        split
        · rename_i hlt; rw [Nat.mod_eq_of_lt hlt]
        · rename_i hlt
          rw [ih (j - sz) (by rw [Nat.add_mul] at hj; omega)]
          exact congrArg (z.cells.toList[·]?) (Nat.mod_eq_sub_mod (Nat.le_of_not_lt hlt)).symm
    rw [key n j hj]
    simp [hlt]
  · rw [List.getElem?_eq_none (by simp [madeCells]; omega), List.getElem?_eq_none (by simp [h]; omega)]
/-- make([]T, n). -/
theorem mkz {τ : TypeId} {bytes n : Nat} {z : Value} (e : Nat) {k : Int} (hT : SlT P et τ c.sz bytes) (hX : envl g x = some (T.c (.int .i64 k))) (hk : k = (n : Int) ∧ n * bytes ≤ 281474976710656) (hz : ∀ u, (P.info? τ).bind (·.zero) = some z ∧ (c.X c.dflt).rep B0 u z) (hb : 0 < bytes) (hn : J P ops fin r (⟨[], [], [(e, Ent.row c τ (List.replicate n c.dflt))], [e], T.o e⟩ :: H) (putg t (T.o e) g) ((e, some (Ent.row c τ (List.replicate n c.dflt))) :: E)) (hg : GuardIs ops g ⟨t, .makeSlice et x x, ty, ps, af, gd⟩ true := by exact gd0) : J P ops fin (⟨t, .makeSlice et x x, ty, ps, af, gd⟩ :: r) H g E :=
  j_new hg (fun ρ β u w F hs he hH => by
    have hx : ρ x = .int .i64 (n : Int) := by rw [← hk.1]; exact he x (by simp [Op.operands]) _ hX
    obtain ⟨ht, inf, z', hi, hz0, hz1, hz2, hzc⟩ := hT.info
    obtain ⟨hzz, hzr⟩ := hz u
    rw [hi, Option.bind_some, hz0] at hzz
    cases hzz
    have hm : n ≤ 281474976710656 := Nat.le_trans (Nat.le_mul_of_pos_right _ hb) hk.2
    have hr := run_make (P := P) w et τ inf z ht hi hz0 .i64 .i64 (n : Int) (n : Int) (by omega) (by omega)
      (by
        have h3 : ((inf.bytes * n : Nat) : Int) ≤ 281474976710656 := by rw [hz2, Nat.mul_comm]; omega
        rwa [Int.natCast_mul] at h3) (by omega)
    simp only [Int.toNat_natCast] at hr
    rw [hz1] at hr
    unfold Res
    simp only [execOp, hx, Sem.run_bind, hr, Result.andThen_ok, Sem.run_pure]
    refine after_newrow hs (World.grownBy_alloc _ _ _) ⟨(List.replicate n z.cells.toList).flatten, ?_, els_rep hzr n⟩ (.inr rfl) ⟨_, _, _, rfl⟩
    have := World.ownsRow_lit (w := w) (base := 0) (e := τ) (size := c.sz) (madeCells z.cells (n * c.sz)) n (Nat.zero_le _) (by unfold maxLen; omega) (size_madeCells _ _)
    rw [List.length_replicate, ← replicate_made hzc c.pos n]
    exact this) hn
/-- make([]T, 0, n). -/
theorem mk0 {τ : TypeId} {bytes n : Nat} (e : Nat) {k : Int} (hT : SlT P et τ c.sz bytes) (hX : envl g x = some (T.c (.int .i64 0))) (hY : envl g y = some (T.c (.int .i64 k))) (hk : k = (n : Int) ∧ n * bytes ≤ 281474976710656) (hb : 0 < bytes) (hn : J P ops fin r (⟨[], [], [(e, Ent.row c τ [])], [e], T.o e⟩ :: H) (putg t (T.o e) g) ((e, some (Ent.row c τ [])) :: E)) (hg : GuardIs ops g ⟨t, .makeSlice et x y, ty, ps, af, gd⟩ true := by exact gd0) : J P ops fin (⟨t, .makeSlice et x y, ty, ps, af, gd⟩ :: r) H g E :=
  j_new hg (fun ρ β u w F hs he hH => by
    have hx : ρ x = .int .i64 0 := he x (by simp [Op.operands]) _ hX
    have hy : ρ y = .int .i64 (n : Int) := by rw [← hk.1]; exact he y (by simp [Op.operands]) _ hY
    obtain ⟨ht, inf, z', hi, hz0, hz1, hz2, hzc⟩ := hT.info
    have hm : n ≤ 281474976710656 := Nat.le_trans (Nat.le_mul_of_pos_right _ hb) hk.2
    have hr := run_make (P := P) w et τ inf z' ht hi hz0 .i64 .i64 0 (n : Int) (by omega) (by omega)
      (by
        have h3 : ((inf.bytes * n : Nat) : Int) ≤ 281474976710656 := by rw [hz2, Nat.mul_comm]; omega
        rwa [Int.natCast_mul] at h3) (by omega)
    simp only [Int.toNat_natCast, Int.toNat_zero] at hr
    rw [hz1] at hr
    unfold Res
    simp only [execOp, hx, hy, Sem.run_bind, hr, Result.andThen_ok, Sem.run_pure]
    refine after_newrow hs (World.grownBy_alloc _ _ _) ⟨[], ?_, rfl⟩ (.inr rfl) ⟨_, _, _, rfl⟩
    exact World.ownsRow_made w _ n (Nat.zero_le _) (by unfold maxLen; omega) (size_madeCells _ _)) hn
end
section
variable {P : Program} {Q : Exit → Act → World → Prop} {n : Nat} {ctx : Ctx} {g g' : List (Nat × T)} {E E' : List (Nat × Option Ent)} {x : Code} {α : Type} {c : Cod α} {l : List α} {τ : TypeId}
/-- A row is written to no more. -/
theorem tri_fz (e : Nat) (hE : lkE E e = some (Ent.row c τ l)) (h : Tri P x Q ctx n g ((e, some (Ent.frz c l)) :: E)) : Tri P x Q ctx n g E := fun a w hS => h a w (by
  obtain ⟨β, u, F, h1, h2, h3, h4, h5, h6, h7⟩ := hS
  obtain ⟨xs, k1, k2, k3⟩ := h4.hold e _ hE
  have hs := h5.sub
  have hd : ∀ k, F e k → Dead u k := fun k hk => (h4.dead e _ k hE hk).1
  have hup := solid_up hs hd
  have hlk : ∀ f, lkE ((e, some (Ent.frz c l)) :: E) f = if e = f then some (Ent.frz c l) else lkE E f := fun f => by
    unfold lkE
    rw [lk_cons]
    by_cases h : e = f
    · rw [if_pos h, if_pos h]; rfl
    · rw [if_neg h, if_neg h]
  have hdd : ∀ f X k, f ≠ e → lkE E f = some X → F f k → Dead (solid u w (F e)) k := fun f X k hne hX hk => solid_dead hs (fun hk' => h4.apart f e X _ k hX hE hne hk hk') (h4.dead f X k hX hk).1
  refine ⟨β, solid u w (F e), fun f k => F f k ∧ f ≠ e, h1, h2, fun t X hX => ?_, ⟨fun f X hX => ?_, fun f X k hX hk => ?_, fun f f' X Y k hX hY hne hk hk' => ?_⟩, ⟨h5.os, h5.tape, h5.output, h5.size, h5.block, h5.old.trans hup, solid_sub hs, fun k hk hc hdk => ?_⟩, fun f X k hX hk => ?_, h7⟩
  · obtain ⟨v, q1, q2⟩ := h3 t X hX
    exact ⟨v, q1, X.mono hup q2⟩
  · rw [hlk] at hX
    by_cases hf : e = f
    · subst hf
      rw [if_pos rfl] at hX
      cases hX
      refine ⟨fun k hk => hk.2 rfl, ?_⟩
      rcases k1.2 with ⟨ev, hn⟩ | ⟨q, cap, cur, ev, hg0, hh, hc1, hc2, hc3, hc4⟩
      · rw [ev]
        exact ⟨none, 0, 0, rfl, hn, Nat.le_refl _, by omega, fun h => absurd h (by omega)⟩
      · refine ⟨_, _, _, ev, rfl, hc1, by unfold maxLen at hc2; omega, fun hp => ⟨_, rfl, xs, k2.mono hup, fun j y hy => ?_⟩⟩
        have hq : F e q := (k3 q).2 (by rw [ev]; rfl)
        rw [add_none, Nat.zero_add, solid_in hs hq, cell_of_row w q j cur τ (0, 0) hh]
        rw [← hc4] at hy
        rw [List.getElem?_take] at hy
        split at hy
        · simpa using hy
        · cases hy
    · rw [if_neg hf] at hX
      exact X.mono hup (X.loc (w := w) (fun k _ => rfl) (by
        have := h4.hold f X hX
        rwa [show (fun k => F f k ∧ f ≠ e) = F f from funext fun k => by simp [Ne.symm hf]]))
  · rw [hlk] at hX
    rw [if_neg (fun h => hk.2 h.symm)] at hX
    exact ⟨hdd f X k hk.2 hX hk.1, (h4.dead f X k hX hk.1).2⟩
  · rw [hlk, if_neg (fun h => hk.2 h.symm)] at hX
    rw [hlk, if_neg (fun h => hk'.2 h.symm)] at hY
    exact h4.apart f f' X Y k hX hY hne hk.1 hk'.1
  · refine solid_dead hs (fun hk' => ?_) (h5.dead k hk hc hdk)
    rcases h6 e _ k hE hk' with h | h
    · exact hc h
    · omega
  · rw [hlk, if_neg (fun h => hk.2 h.symm)] at hX
    exact h6 f X k hX hk.1)
/-- The slice of a row that is written to no more. -/
theorem tri_rd (t e : Nat) (ht : lk g t = some (T.o e)) (hE : lkE E e = some (Ent.frz c l)) (h : Tri P x Q ctx n ((t, T.l c l) :: g) E) : Tri P x Q ctx n g E := fun a w hS => h a w (by
  obtain ⟨β, u, F, h1, h2, h3, h4, h5, h6, h7⟩ := hS
  refine ⟨β, u, F, h1, h2, fun t' X hX => ?_, h4, h5, h6, h7⟩
  rw [lk_cons] at hX
  split at hX
  · rename_i e1
    subst e1
    cases hX
    obtain ⟨v, q1, q2, q3⟩ := h3 t _ ht
    exact ⟨v, q1, (T.l c l).ext (fun _ h => by cases h) (by rw [q2]; exact (h4.hold e _ hE).2)⟩
  · exact h3 t' X hX)
/-- A nil slice is a row. -/
theorem tri_nil (t e : Nat) (τ : TypeId) (c : Cod α) (ht : lk g t = some (T.c (.slice none 0 0))) (hf : ((nsOf g ++ nsE E ++ ctx.I).contains e) = false) (h : Tri P x Q ctx n ((t, T.o e) :: g) ((e, some (Ent.row c τ [])) :: E)) : Tri P x Q ctx n g E := fun a w hS => h a w (by
  obtain ⟨β, u, F, h1, h2, h3, h4, h5, h6, h7⟩ := hS
  have hfr : e ∉ nsOf g ∧ e ∉ nsE E ∧ e ∉ ctx.I := by
    simp only [List.contains_eq_mem, decide_eq_false_iff_not, List.mem_append, not_or] at hf
    exact ⟨hf.1.1, hf.1.2, hf.2⟩
  have hb : ∀ f, f ≠ e → setE β e (.slice none 0 0) f = β f := fun f hne => setE_ne _ _ hne
  have hlk : ∀ f, lkE ((e, some (Ent.row c τ ([] : List α))) :: E) f = if e = f then some (Ent.row c τ []) else lkE E f := fun f => by
    unfold lkE
    rw [lk_cons]
    by_cases h : e = f
    · rw [if_pos h, if_pos h]; rfl
    · rw [if_neg h, if_neg h]
  have hnone : lkE E e = none := by
    cases hx : lkE E e with
    | none => rfl
    | some X => exact absurd (lkE_base hx).1 hfr.2.1
  refine ⟨setE β e (.slice none 0 0), u, fun f k => F f k ∧ f ≠ e, h1, h2, fun t' X hX => ?_, ⟨fun f X hX => ?_, fun f X k hX hk => ?_, fun f f' X Y k hX hY hne hk hk' => ?_⟩, h5, fun f X k hX hk => ?_, fun f hf => (hb f (fun h => hfr.2.2 (h ▸ hf))).trans (h7 f hf)⟩
  · rw [lk_cons] at hX
    split at hX
    · rename_i e1
      subst e1
      cases hX
      obtain ⟨v, q1, q2⟩ := h3 t _ ht
      exact ⟨v, q1, by rw [setE_same]; exact q2, _, _, _, q2⟩
    · obtain ⟨v, q1, q2⟩ := h3 t' X hX
      exact ⟨v, q1, X.ext (fun q hq => hb q (fun h => hfr.1 (h ▸ lk_base hX q hq))) q2⟩
  · rw [hlk] at hX
    by_cases hf : e = f
    · subst hf
      rw [if_pos rfl] at hX
      cases hX
      rw [setE_same]
      exact ⟨[], World.ownsRow_nil _ _ _ _, rfl, fun k => ⟨fun h => absurd rfl h.2, fun h => by cases h⟩⟩
    · rw [if_neg hf] at hX
      rw [hb f (Ne.symm hf), show (fun k => F f k ∧ f ≠ e) = F f from funext fun k => by simp [Ne.symm hf]]
      exact X.ext (fun q hq => hb q (fun h => hfr.2.1 (h ▸ (lkE_base hX).2 q hq))) (h4.hold f X hX)
  · rw [hlk, if_neg (fun h => hk.2 h.symm)] at hX
    exact h4.dead f X k hX hk.1
  · rw [hlk, if_neg (fun h => hk.2 h.symm)] at hX
    rw [hlk, if_neg (fun h => hk'.2 h.symm)] at hY
    exact h4.apart f f' X Y k hX hY hne hk.1 hk'.1
  · rw [hlk, if_neg (fun h => hk.2 h.symm)] at hX
    exact h6 f X k hX hk.1)
end
end Go.Proofs.YtekghdfbhbhigaaGreat.V
