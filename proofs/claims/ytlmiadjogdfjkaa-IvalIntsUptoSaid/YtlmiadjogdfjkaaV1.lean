/- A logic of calls: what values say and what memory is one's own; a region whose order is open is gone through in the order of its text. -/
import Derived.OrdersHeld
import Derived.Laws.CopyRow
import Derived.Laws.Rows
import Derived.Below
import Derived.KernelRfl
import Derived.Maps.AppendAt
import Derived.Tactics
set_option linter.unusedVariables false
set_option linter.unusedSimpArgs false
namespace Go.Proofs.Ytlmiadjogdfjkaa.V
open Go.RowKit

/-- What u holds w holds. -/
def Sub (u w : World) : Prop := ∀ a v, u.cell? a = some v → w.cell? a = some v
theorem Sub.refl (u : World) : Sub u u := fun _ _ h => h
theorem Sub.trans {a b c : World} (h : Sub a b) (k : Sub b c) : Sub a c := fun p v hp => k p v (h p v hp)
def Dead (u : World) (p : Nat) : Prop := ∀ a : Addr, a.block = p → u.cell? a = none
/-- Names of what is owned, and where each begins. -/
abbrev Env := Nat → Value
abbrev FP := Nat → Nat → Prop
def Flat (v : Value) (m : Nat) : Prop := v.cells.toList.length = m ∧ v.cells.toList.all Value.oneCell' = true
/-- Cells as a value of a type. -/
def asVal (b : Bool) (vs : List Value) : Value := if b then .agg vs.toArray else vs.headD undef
/-- What a value says: the names that it mentions; its cells (nought: none are told), is it a struct?; it stays so while more is known. -/
structure T where
  ns : List Nat
  sz : Nat
  ag : Bool
  rep : Env → World → Value → Prop
  shp : ∀ {β u v}, rep β u v → sz ≠ 0 → Flat v sz ∧ v = asVal ag v.cells.toList
  mono : ∀ {β u u' v}, Sub u u' → rep β u v → rep β u' v
  ext : ∀ {β β' u v}, (∀ e ∈ ns, β' e = β e) → rep β u v → rep β' u v
/-- What one's own memory says: it hangs on its own blocks alone. -/
structure Ent where
  ns : List Nat
  hold : Env → World → World → Value → (Nat → Prop) → Prop
  mono : ∀ {β u u' w v F}, Sub u u' → hold β u w v F → hold β u' w v F
  ext : ∀ {β β' u w v F}, (∀ e ∈ ns, β' e = β e) → hold β u w v F → hold β' u w v F
  loc : ∀ {β u w w' v F}, (∀ k, F k → w'.heap[k]? = w.heap[k]?) → hold β u w v F → hold β u w' v F
def lk {α : Type} : List (Nat × α) → Nat → Option α
  | [], _ => none
  | (k, v) :: r, t => bif Nat.beq k t then some v else lk r t
theorem lk_cons {α : Type} (k : Nat) (v : α) (r : List (Nat × α)) (t : Nat) : lk ((k, v) :: r) t = if k = t then some v else lk r t := by
  show (bif Nat.beq k t then some v else lk r t) = _
  by_cases h : k = t
  · subst h; simp
  · have : Nat.beq k t = false := by cases hb : Nat.beq k t with | false => rfl | true => exact absurd (Nat.eq_of_beq_eq_true hb) h
    rw [this, if_neg h]; rfl
theorem lk_mem {α : Type} : ∀ {l : List (Nat × α)} {t : Nat} {v : α}, lk l t = some v → (t, v) ∈ l
  | [], _, _, h => by cases h
  | (k, x) :: r, t, v, h => by
    rw [lk_cons] at h
    split at h
    · rename_i e; subst e; cases h; exact List.mem_cons_self
    · exact List.mem_cons_of_mem _ (lk_mem h)

structure Hold (β : Env) (u w : World) (F : FP) (A : Nat → Option Ent) : Prop where
  hold : ∀ e X, A e = some X → X.hold β u w (β e) (F e)
  dead : ∀ e X k, A e = some X → F e k → Dead u k ∧ k < w.heap.size
  apart : ∀ e f X Y k, A e = some X → A f = some Y → e ≠ f → F e k → ¬ F f k
/-- One step: what was there stays, but for blocks that were given up. -/
structure Tr (C : Nat → Prop) (u w u' w' : World) : Prop where
  os : w'.os = w.os
  tape : w'.tape = w.tape
  output : w'.output = w.output
  size : w.heap.size ≤ w'.heap.size
  block : ∀ k, k < w.heap.size → ¬ C k → w'.heap[k]? = w.heap[k]?
  old : Sub u u'
  sub : Sub u' w'
  dead : ∀ k, k < w.heap.size → ¬ C k → Dead u k → Dead u' k
theorem Tr.refl {C : Nat → Prop} {u w : World} (h : Sub u w) : Tr C u w u w := ⟨rfl, rfl, rfl, Nat.le_refl _, fun _ _ _ => rfl, Sub.refl _, h, fun _ _ _ h => h⟩
theorem Tr.trans {C D : Nat → Prop} {u w u' w' u2 w2 : World} (h : Tr C u w u' w') (k : Tr D u' w' u2 w2) (hD : ∀ b, D b → C b ∨ w.heap.size ≤ b) : Tr C u w u2 w2 :=
  ⟨k.os.trans h.os, k.tape.trans h.tape, k.output.trans h.output, Nat.le_trans h.size k.size,
   fun b hb hc => (k.block b (Nat.lt_of_lt_of_le hb h.size) (fun hd => by rcases hD b hd with h1 | h1; exact hc h1; omega)).trans (h.block b hb hc),
   h.old.trans k.old, k.sub, fun b hb hc hd => k.dead b (Nat.lt_of_lt_of_le hb h.size) (fun hd' => by rcases hD b hd' with h1 | h1; exact hc h1; omega) (h.dead b hb hc hd)⟩
def Fp (F : FP) (C : List Nat) (k : Nat) : Prop := ∃ e ∈ C, F e k
/-- What is so behind a step that gives up C and leaves O, new names N, a value R. -/
def After (β : Env) (u w : World) (F : FP) (C : List Nat) (O : Nat → Option Ent) (N : List Nat) (R : T) (v : Value) (w' : World) : Prop :=
  ∃ u' β' F', (∀ e, e ∉ N → β' e = β e) ∧ Tr (Fp F C) u w u' w' ∧ Hold β' u' w' F' O ∧ (∀ e X k, O e = some X → F' e k → Fp F C k ∨ w.heap.size ≤ k) ∧ R.rep β' u' v
/-- The rest of one's own stays. -/
theorem frame {β β' : Env} {u w u' w' : World} {F F' : FP} {A O : Nat → Option Ent} {C N : List Nat} (hH : Hold β u w F A) (hN : ∀ f Y, A f = some Y → f ∉ C → O f = none → f ∉ N ∧ ∀ e ∈ Y.ns, e ∉ N)
    (hb : ∀ e, e ∉ N → β' e = β e) (ht : Tr (Fp F C) u w u' w') (hO : Hold β' u' w' F' O) (hF : ∀ e X k, O e = some X → F' e k → Fp F C k ∨ w.heap.size ≤ k) (hC : ∀ e ∈ C, ∃ X, A e = some X) :
    Hold β' u' w' (fun e => if (O e).isSome then F' e else F e) (fun e => match O e with | some X => some X | none => if e ∈ C then none else A e) := by
  have old : ∀ e X, (match O e with | some X => some X | none => if e ∈ C then none else A e) = some X → O e = some X ∨ (O e = none ∧ e ∉ C ∧ A e = some X) := fun e X h => by
    cases ho : O e with
    | some Y => rw [ho] at h; exact .inl h
    | none =>
      rw [ho] at h
      simp only at h
      split at h
      · cases h
      · rename_i hc; exact .inr ⟨rfl, hc, h⟩
  have nc : ∀ e X k, e ∉ C → A e = some X → F e k → ¬ Fp F C k := fun e X k hc ha hk hf => by
    obtain ⟨c, hc1, hc2⟩ := hf
    obtain ⟨Y, hY⟩ := hC c hc1
    exact hH.apart e c X Y k ha hY (fun e1 => hc (e1 ▸ hc1)) hk hc2
  refine ⟨fun e X h => ?_, fun e X k h hk => ?_, fun e f X Y k h h' hne hk => ?_⟩
  · rcases old e X h with ho | ⟨ho, hc, ha⟩
    · simp only [ho, Option.isSome_some, if_true]; exact hO.hold e X ho
    · simp only [ho, Option.isSome_none, Bool.false_eq_true, if_false]
      obtain ⟨h1, h2⟩ := hN e X ha hc ho
      rw [hb e h1]
      refine X.mono ht.old (X.ext (fun n hn => hb n (h2 n hn)) (X.loc (fun k hk => ht.block k (hH.dead e X k ha hk).2 (nc e X k hc ha hk)) (hH.hold e X ha)))
  · rcases old e X h with ho | ⟨ho, hc, ha⟩
    · simp only [ho, Option.isSome_some, if_true] at hk; exact hO.dead e X k ho hk
    · simp only [ho, Option.isSome_none, Bool.false_eq_true, if_false] at hk
      obtain ⟨h1, h2⟩ := hH.dead e X k ha hk
      exact ⟨ht.dead k h2 (nc e X k hc ha hk) h1, Nat.lt_of_lt_of_le h2 ht.size⟩
  · rcases old e X h with ho | ⟨ho, hc, ha⟩ <;> rcases old f Y h' with ho' | ⟨ho', hc', ha'⟩ <;> simp only [ho, ho', Option.isSome_some, Option.isSome_none, Bool.false_eq_true, if_true, if_false] at hk ⊢
    · exact hO.apart e f X Y k ho ho' hne hk
    · intro hk'
      rcases hF e X k ho hk with h1 | h1
      · exact nc f Y k hc' ha' hk' h1
      · have := (hH.dead f Y k ha' hk').2; omega
    · intro hk'
      rcases hF f Y k ho' hk' with h1 | h1
      · exact nc e X k hc ha hk h1
      · have := (hH.dead e X k ha hk).2; omega
    · exact hH.apart e f X Y k ha ha' hne hk

/-! ### what operations do -/
/-- What an operation uses, gives up, leaves, names anew, and says. -/
structure OpS where
  uses : List Nat
  cons : List Nat
  prod : List (Nat × Ent)
  news : List Nat
  out : T
def Names {α : Type} (l : List (Nat × α)) : List Nat := l.map (·.1)
namespace OpS
variable (k : OpS)
def touch : List Nat := k.cons ++ Names k.prod
def acc : List Nat := k.uses ++ k.touch
def ns : List Nat := k.out.ns ++ k.prod.flatMap (·.2.ns)
def upd (e : Nat) (c : Option Ent) : Option Ent := match lk k.prod e with | some X => some X | none => if k.cons.contains e then none else c
end OpS
theorem lk_names {α : Type} : ∀ {l : List (Nat × α)} {t : Nat}, t ∉ Names l → lk l t = none
  | [], _, _ => rfl
  | (k, x) :: r, t, h => by
    rw [lk_cons, if_neg (fun e => h (by subst e; simp [Names]))]
    exact lk_names (fun hr => h (by simp only [Names, List.map_cons]; exact List.mem_cons_of_mem _ hr))
theorem upd_un {k : OpS} {e : Nat} (h : e ∉ k.touch) (c : Option Ent) : k.upd e c = c := by
  unfold OpS.touch at h
  rw [List.mem_append] at h
  unfold OpS.upd
  rw [lk_names (fun h' => h (.inr h'))]
  simp only
  rw [if_neg]
  simpa using fun h' => h (.inl h')

/-- One's own, where those of d have come up. -/
def al (d : Nat → Bool) (e : Nat) : List OpS → Nat → Option Ent → Option Ent
  | [], _, c => c
  | k :: r, i, c => al d e r (i + 1) (if d i then k.upd e c else c)
/-- Who wrote a slot last. -/
def wr (d : Nat → Bool) (t : Nat) : List Oper → Nat → Option Nat → Option Nat
  | [], _, c => c
  | o :: r, i, c => wr d t r (i + 1) (if d i && o.dst == some t then some i else c)
def add (d : Nat → Bool) (i : Nat) : Nat → Bool := fun k => k == i || d k
theorem add_same (d : Nat → Bool) (i : Nat) : add d i i = true := by simp [add]
theorem add_ne (d : Nat → Bool) {i k : Nat} (h : k ≠ i) : add d i k = d k := by simp [add, h]
theorem al_congr {e : Nat} {d d' : Nat → Bool} : ∀ (l : List OpS) (s : Nat) (c : Option Ent), (∀ j k, l[j]? = some k → e ∈ k.touch → d (s + j) = d' (s + j)) → al d e l s c = al d' e l s c
  | [], _, _, _ => rfl
  | k :: r, s, c, h => by
    unfold al
    have e1 : (if d s then k.upd e c else c) = (if d' s then k.upd e c else c) := by
      by_cases ht : e ∈ k.touch
      · rw [show d s = d' s from by have := h 0 k (by simp) ht; simpa using this]
      · rw [upd_un ht]; simp
    rw [e1]
    exact al_congr r (s + 1) _ (fun j k' hj ht => by have := h (j + 1) k' (by simpa using hj) ht; rwa [show s + (j + 1) = s + 1 + j by omega] at this)
theorem al_id {e : Nat} {d : Nat → Bool} : ∀ (l : List OpS) (s : Nat) (c : Option Ent), (∀ j k, l[j]? = some k → e ∈ k.touch → d (s + j) = false) → al d e l s c = c
  | [], _, _, _ => rfl
  | k :: r, s, c, h => by
    unfold al
    have e1 : (if d s then k.upd e c else c) = c := by
      by_cases ht : e ∈ k.touch
      · rw [show d s = false from by have := h 0 k (by simp) ht; simpa using this]; rfl
      · rw [upd_un ht]; simp
    rw [e1]
    exact al_id r (s + 1) _ (fun j k' hj ht => by have := h (j + 1) k' (by simpa using hj) ht; rwa [show s + (j + 1) = s + 1 + j by omega] at this)
theorem al_add {e i : Nat} {d : Nat → Bool} {k0 : OpS} (hd : d i = false) : ∀ (l : List OpS) (s : Nat) (c : Option Ent), s ≤ i → l[i - s]? = some k0 → (∀ j k, l[j]? = some k → e ∈ k.touch → i < s + j → d (s + j) = false) → al (add d i) e l s c = k0.upd e (al d e l s c)
  | [], _, _, _, h, _ => by simp at h
  | k :: r, s, c, hs, hk, h => by
    unfold al
    by_cases hi : s = i
    · subst hi
      rw [Nat.sub_self] at hk
      have : k = k0 := by simpa using hk
      subst this
      rw [add_same, if_pos rfl, if_neg (by simp [hd])]
      have h' : ∀ j k', r[j]? = some k' → e ∈ k'.touch → d (s + 1 + j) = false := fun j k' hj ht => by
        have := h (j + 1) k' (by simpa using hj) ht (by omega)
        rwa [show s + (j + 1) = s + 1 + j by omega] at this
      rw [al_id r (s + 1) c h', al_id r (s + 1) (k.upd e c) (fun j k' hj ht => by rw [add_ne d (by omega)]; exact h' j k' hj ht)]
    · rw [add_ne d hi]
      exact al_add hd r (s + 1) _ (by omega) (by rw [show i - s = (i - (s + 1)) + 1 by omega] at hk; simpa using hk) (fun j k' hj ht hlt => by
        have := h (j + 1) k' (by simpa using hj) ht (by omega)
        rwa [show s + (j + 1) = s + 1 + j by omega] at this)
theorem wr_congr {t : Nat} {d d' : Nat → Bool} : ∀ (l : List Oper) (s : Nat) (c : Option Nat), (∀ j o, l[j]? = some o → o.dst = some t → d (s + j) = d' (s + j)) → wr d t l s c = wr d' t l s c
  | [], _, _, _ => rfl
  | o :: r, s, c, h => by
    unfold wr
    have e1 : (if d s && o.dst == some t then some s else c) = (if d' s && o.dst == some t then some s else c) := by
      by_cases ht : o.dst = some t
      · rw [show d s = d' s from by have := h 0 o (by simp) ht; simpa using this]
      · have : (o.dst == some t) = false := by simpa using ht
        simp [this]
    rw [e1]
    exact wr_congr r (s + 1) _ (fun j k' hj ht => by have := h (j + 1) k' (by simpa using hj) ht; rwa [show s + (j + 1) = s + 1 + j by omega] at this)
theorem wr_id {t : Nat} {d : Nat → Bool} : ∀ (l : List Oper) (s : Nat) (c : Option Nat), (∀ j o, l[j]? = some o → o.dst = some t → d (s + j) = false) → wr d t l s c = c
  | [], _, _, _ => rfl
  | o :: r, s, c, h => by
    unfold wr
    have e1 : (if d s && o.dst == some t then some s else c) = c := by
      by_cases ht : o.dst = some t
      · rw [show d s = false from by have := h 0 o (by simp) ht; simpa using this]; rfl
      · have : (o.dst == some t) = false := by simpa using ht
        simp [this]
    rw [e1]
    exact wr_id r (s + 1) _ (fun j k' hj ht => by have := h (j + 1) k' (by simpa using hj) ht; rwa [show s + (j + 1) = s + 1 + j by omega] at this)
theorem wr_add {t i : Nat} {d : Nat → Bool} {o0 : Oper} (hd : d i = false) : ∀ (l : List Oper) (s : Nat) (c : Option Nat), s ≤ i → l[i - s]? = some o0 → (∀ j o, l[j]? = some o → o.dst = some t → o0.dst = some t → i < s + j → d (s + j) = false) → wr (add d i) t l s c = if o0.dst = some t then some i else wr d t l s c
  | [], _, _, _, h, _ => by simp at h
  | o :: r, s, c, hs, hk, h => by
    unfold wr
    by_cases hi : s = i
    · subst hi
      rw [Nat.sub_self] at hk
      have : o = o0 := by simpa using hk
      subst this
      rw [add_same, hd]
      by_cases ht : o.dst = some t
      · have hb : (o.dst == some t) = true := by simpa using ht
        have h' : ∀ j o', r[j]? = some o' → o'.dst = some t → d (s + 1 + j) = false := fun j o' hj ho => by
          have := h (j + 1) o' (by simpa using hj) ho ht (by omega)
          rwa [show s + (j + 1) = s + 1 + j by omega] at this
        rw [hb, if_pos ht]
        simp only [Bool.and_true, if_true, Bool.false_eq_true, if_false]
        exact wr_id r (s + 1) _ (fun j o' hj ho => by rw [add_ne d (by omega)]; exact h' j o' hj ho)
      · have hb : (o.dst == some t) = false := by simpa using ht
        rw [hb, if_neg ht]
        simp only [Bool.and_false, Bool.false_eq_true, if_false]
        refine wr_congr r (s + 1) c (fun j o' hj ho => add_ne d (by omega))
    · rw [add_ne d hi]
      exact wr_add hd r (s + 1) _ (by omega) (by rw [show i - s = (i - (s + 1)) + 1 by omega] at hk; simpa using hk) (fun j o' hj ho h0 hlt => by
        have := h (j + 1) o' (by simpa using hj) ho h0 (by omega)
        rwa [show s + (j + 1) = s + 1 + j by omega] at this)
theorem wr_spec {t : Nat} {d : Nat → Bool} : ∀ (l : List Oper) (s : Nat) (c : Option Nat) (j : Nat), wr d t l s c = some j → c = some j ∨ (s ≤ j ∧ d j = true ∧ ∃ o, l[j - s]? = some o ∧ o.dst = some t)
  | [], _, _, _, h => .inl h
  | o :: r, s, c, j, h => by
    unfold wr at h
    rcases wr_spec r (s + 1) _ j h with h1 | ⟨h1, h2, o', h3, h4⟩
    · split at h1
      · rename_i hb
        cases h1
        simp only [Bool.and_eq_true, beq_iff_eq] at hb
        exact .inr ⟨Nat.le_refl _, hb.1, o, by simp, hb.2⟩
      · exact .inl h1
    · exact .inr ⟨by omega, h2, o', by rw [show j - s = (j - (s + 1)) + 1 by omega]; simpa using h3, h4⟩

/-! ### who comes ahead of whom -/
def mk1 (acc : List Nat) (o : Oper) : Nat := o.after.toList.foldl (fun s e => if Region.binds .any e then s ||| 2 ^ e.on ||| acc.getD e.on 0 else s) 0
def masks : List Oper → List Nat → List Nat
  | [], acc => acc
  | o :: r, acc => masks r (acc ++ [mk1 acc o])
def Dep (ops : Array Oper) (j i : Nat) : Prop := ∃ o, ops[i]? = some o ∧ ∃ e ∈ o.after, Region.binds .any e = true ∧ e.on = j
inductive Reach (ops : Array Oper) : Nat → Nat → Prop
  | one {j i : Nat} : Dep ops j i → Reach ops j i
  | step {j k i : Nat} : Reach ops j k → Dep ops k i → Reach ops j i
theorem mk1_spec {acc : List Nat} {o : Oper} {j : Nat} (h : (mk1 acc o).testBit j = true) : ∃ e ∈ o.after, Region.binds .any e = true ∧ (e.on = j ∨ (acc.getD e.on 0).testBit j = true) := by
  unfold mk1 at h
  have key : ∀ (l : List Edge) (s : Nat), (l.foldl (fun s e => if Region.binds .any e then s ||| 2 ^ e.on ||| acc.getD e.on 0 else s) s).testBit j = true → s.testBit j = true ∨ ∃ e ∈ l, Region.binds .any e = true ∧ (e.on = j ∨ (acc.getD e.on 0).testBit j = true) := by
    intro l
    induction l with
    | nil => intro s h; exact .inl h
    | cons e r ih =>
      intro s h
      rw [List.foldl_cons] at h
      rcases ih _ h with h1 | ⟨e', h1, h2⟩
      · split at h1
        · rename_i hb
          rw [Nat.testBit_or, Nat.testBit_or, Bool.or_eq_true, Bool.or_eq_true] at h1
          rcases h1 with (h1 | h1) | h1
          · exact .inl h1
          · rw [Nat.testBit_two_pow] at h1
            exact .inr ⟨e, List.mem_cons_self, hb, .inl (by simpa using h1)⟩
          · exact .inr ⟨e, List.mem_cons_self, hb, .inr h1⟩
        · exact .inl h1
      · exact .inr ⟨e', List.mem_cons_of_mem _ h1, h2⟩
  rcases key _ _ h with h1 | ⟨e, h1, h2⟩
  · simp at h1
  · exact ⟨e, by simpa using h1, h2⟩
theorem masks_spec {ops : Array Oper} : ∀ (r : List Oper) (acc : List Nat), ops.toList.drop acc.length = r → (∀ i j, (acc.getD i 0).testBit j = true → Reach ops j i) → ∀ i j, ((masks r acc).getD i 0).testBit j = true → Reach ops j i
  | [], acc, _, h => h
  | o :: r, acc, hr, h => by
    unfold masks
    have ho : ops[acc.length]? = some o := by
      have : (ops.toList.drop acc.length)[0]? = some o := by rw [hr]; rfl
      rw [List.getElem?_drop] at this
      simpa using this
    refine masks_spec r (acc ++ [mk1 acc o]) (by rw [List.length_append, ← List.drop_drop, hr]; rfl) (fun i j hij => ?_)
    rw [List.getD_eq_getElem?_getD, List.getElem?_append] at hij
    split at hij
    · exact h i j (by rw [List.getD_eq_getElem?_getD]; exact hij)
    · rename_i hlt
      by_cases hi : i = acc.length
      · subst hi
        simp only [Nat.sub_self, List.getElem?_cons_zero, Option.getD_some] at hij
        obtain ⟨e, he, hb, hor⟩ := mk1_spec hij
        have hd : Dep ops e.on acc.length := ⟨o, ho, e, he, hb, rfl⟩
        rcases hor with rfl | hor
        · exact .one hd
        · exact .step (h _ _ hor) hd
      · rw [List.getElem?_eq_none (by simp; omega)] at hij
        simp at hij
def dp (M : List Nat) (j i : Nat) : Bool := (M.getD i 0).testBit j
def meet (a b : List Nat) : Bool := a.any fun x => b.contains x
theorem meet_of {a b : List Nat} {x : Nat} (h1 : x ∈ a) (h2 : x ∈ b) : meet a b = true := List.any_eq_true.2 ⟨x, h1, by simpa using h2⟩
def tmpsOf (l : List Operand) : List Nat := l.filterMap fun | .tmp t => some t | _ => none
def reads (ops : Array Oper) (o : Oper) : List Nat := tmpsOf o.op.operands.toList ++ (match o.guard with | some (g, _) => ((ops[g]?).bind (·.dst)).toList | none => [])
def zipI {α : Type} : List α → Nat → List (Nat × α)
  | [], _ => []
  | x :: r, i => (i, x) :: zipI r (i + 1)
theorem zipI_mem {α : Type} : ∀ {l : List α} {s j : Nat} {x : α}, l[j]? = some x → (s + j, x) ∈ zipI l s
  | [], _, _, _, h => by simp at h
  | y :: r, s, 0, x, h => by simp at h; subst h; simp [zipI]
  | y :: r, s, j + 1, x, h => by
    unfold zipI
    refine List.mem_cons_of_mem _ ?_
    rw [show s + (j + 1) = s + 1 + j by omega]
    exact zipI_mem (by simpa using h)
/-- Slots are read behind who wrote them, and ahead of who writes them next. -/
def slotsOk (ops : Array Oper) (M : List Nat) (n : Nat) : Bool :=
  let z := zipI ops.toList 0
  let ws := z.filterMap fun p => p.2.dst.map fun t => (p.1, t)
  z.all fun p =>
    let l := p.2.dst.toList ++ reads ops p.2
    (p.2.dst.toList.all fun t => Nat.blt t n) && (p.2.after.toList.all fun e => !Region.binds .any e || Nat.blt e.on p.1) &&
    ws.all fun q => p.1 == q.1 || !l.contains q.2 || (bif Nat.blt q.1 p.1 then dp M q.1 p.1 else dp M p.1 q.1)
/-- Names are made once, and memory is looked at in order. -/
def memOk (M : List Nat) (base : List Nat) : List (Nat × OpS) → Bool
  | [] => true
  | (j, k) :: r =>
    (k.news.all fun e => !base.contains e && !k.uses.contains e && !k.cons.contains e && (Names k.prod).contains e) && (Names k.prod).all (fun e => k.cons.contains e || k.news.contains e) &&
    (r.all fun q => (!(meet k.touch q.2.acc || meet k.acc q.2.touch || meet k.news q.2.ns) || dp M j q.1) && !meet q.2.news (k.ns ++ k.acc)) && memOk M base r
def nsOf (g : List (Nat × T)) : List Nat := g.flatMap (·.2.ns)
def nsE (E : List (Nat × Option Ent)) : List Nat := E.flatMap fun p => p.1 :: (match p.2 with | some X => X.ns | none => [])
def okR (ops : Array Oper) (H : List OpS) (n : Nat) (g : List (Nat × T)) (E : List (Nat × Option Ent)) : Bool :=
  let M := masks ops.toList []
  slotsOk ops M n && Region.noSelect ops && memOk M (nsOf g ++ nsE E) (zipI H.reverse 0)
theorem memOk_at {M base : List Nat} : ∀ {l : List OpS} {s : Nat}, memOk M base (zipI l s) = true → ∀ {j : Nat} {k : OpS}, l[j]? = some k →
    ((∀ e ∈ k.news, e ∉ base ∧ e ∉ k.uses ∧ e ∉ k.cons ∧ e ∈ Names k.prod) ∧ (∀ e ∈ Names k.prod, e ∈ k.cons ∨ e ∈ k.news)) ∧ ∀ {i : Nat} {q : OpS}, l[i]? = some q → j < i →
      (((meet k.touch q.acc || meet k.acc q.touch || meet k.news q.ns) = true → dp M (s + j) (s + i) = true) ∧ ∀ e ∈ q.news, e ∉ k.ns ∧ e ∉ k.acc)
  | [], _, _, _, _, h => by simp at h
  | x :: r, s, h, 0, k, hk => by
    simp at hk; subst hk
    simp only [zipI, memOk, Bool.and_eq_true, List.all_eq_true] at h
    obtain ⟨⟨⟨h1, h2⟩, h3⟩, _⟩ := h
    refine ⟨⟨fun e he => by have := h1 e he; simp only [Bool.and_eq_true, Bool.not_eq_true', List.contains_eq_mem, decide_eq_false_iff_not, decide_eq_true_eq] at this; exact ⟨this.1.1.1, this.1.1.2, this.1.2, this.2⟩, fun e he => by have := h2 e he; simpa using this⟩, fun {i q} hi hlt => ?_⟩
    obtain ⟨i', rfl⟩ : ∃ i', i = i' + 1 := ⟨i - 1, by omega⟩
    have h4 := h3 (s + 1 + i', q) (zipI_mem (by simpa using hi))
    simp only [Bool.and_eq_true, Bool.or_eq_true, Bool.not_eq_true'] at h4
    refine ⟨fun hm => ?_, fun e he => ?_⟩
    · rw [show s + (i' + 1) = s + 1 + i' by omega, Nat.add_zero]
      rcases h4.1 with h5 | h5
      · rw [hm] at h5; cases h5
      · exact h5
    · have h6 := h4.2
      constructor
      · intro hx; rw [meet_of he (List.mem_append_left _ hx)] at h6; cases h6
      · intro hx; rw [meet_of he (List.mem_append_right _ hx)] at h6; cases h6
  | x :: r, s, h, j + 1, k, hk => by
    simp only [zipI, memOk, Bool.and_eq_true] at h
    obtain ⟨h1, h2⟩ := memOk_at (l := r) (s := s + 1) h.2 (j := j) (k := k) (by simpa using hk)
    refine ⟨h1, fun {i q} hi hlt => ?_⟩
    obtain ⟨i', rfl⟩ : ∃ i', i = i' + 1 := ⟨i - 1, by omega⟩
    have := h2 (i := i') (q := q) (by simpa using hi) (by omega)
    rwa [show s + 1 + j = s + (j + 1) by omega, show s + 1 + i' = s + (i' + 1) by omega] at this
end Go.Proofs.Ytlmiadjogdfjkaa.V
