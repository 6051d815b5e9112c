/- A logic of calls: the law of regions, the rules of code. -/
import Derived.Test.YtlmiadjogdfjkaaV1
set_option linter.unusedVariables false
set_option linter.unusedSimpArgs false
namespace Go.Proofs.Ytlmiadjogdfjkaa.V
open Go.RowKit

/-- A value that is known. -/
def szOf : Value → Nat
  | .agg a => if a.toList.all Value.oneCell' then a.size else 0
  | .tuple _ => 0
  | _ => 1
def agOf : Value → Bool
  | .agg _ => true
  | _ => false
theorem szOf_shp {v : Value} (h : szOf v ≠ 0) : Flat v (szOf v) ∧ v = asVal (agOf v) v.cells.toList := by
  cases v with
  | agg a =>
    unfold szOf at h ⊢
    simp only at h ⊢
    split at h
    · rename_i ha; rw [if_pos ha]; exact ⟨⟨by simp [Value.cells], ha⟩, by simp [asVal, agOf, Value.cells]⟩
    · exact absurd rfl h
  | tuple a => exact absurd rfl h
  | _ => exact ⟨⟨rfl, rfl⟩, rfl⟩
def T.c (x : Value) : T := ⟨[], szOf x, agOf x, fun _ _ v => v = x, fun h hn => by subst h; exact szOf_shp hn, fun _ h => h, fun _ h => h⟩
def envl (g : List (Nat × T)) : Operand → Option T
  | .tmp t => lk g t
  | .const v => some (T.c v)
  | .global q => some (T.c (.pointer (some ⟨q, 0, none⟩)))
  | .func f => some (T.c (.func (.func f) #[] #[]))
def Res (P : Program) (m : Sem Next) (w : World) (Q : Value → World → Prop) : Prop := match m.run P w with
  | .ok (.value v) w' => Q v w'
  | .ok .skip w' => Q undef w'
  | .ok (.enter f args) w' => Calls P f args w' fun e w'' => ∃ v, e = .returned v ∧ Q v w''
  | .ok (.row row args) w' => Go.Rows P row args w' Q
  | _ => False
def OpOk (P : Program) (o : Oper) (env : Operand → Option T) (A : Nat → Option Ent) (k : OpS) : Prop := ∀ ρ β u w F, Sub u w → (∀ x ∈ o.op.operands, ∀ X, env x = some X → X.rep β u (ρ x)) → Hold β u w F A →
  Res P (execOp ρ o) w (After β u w F k.cons (lk k.prod) k.news k.out)
def GuardIs (ops : Array Oper) (g : List (Nat × T)) (o : Oper) (b : Bool) : Prop := (o.guard = none ∧ b = true) ∨ (∃ q c t e, o.guard = some (q, c) ∧ (ops[q]?).bind (·.dst) = some t ∧ lk g t = some (T.c (.bool e)) ∧ b = (e == c)) ∨ b = false ∧ ∃ q c t, o.guard = some (q, c) ∧ (ops[q]?).bind (·.dst) = some t ∧ lk g t = some (T.c undef)
def lkE (E : List (Nat × Option Ent)) (e : Nat) : Option Ent := (lk E e).getD none
def OpS.idle : OpS := ⟨[], [], [], [], T.c undef⟩
def StepOk (P : Program) (ops : Array Oper) (g : List (Nat × T)) (E : List (Nat × Option Ent)) (o : Oper) (k : OpS) : Prop :=
  (GuardIs ops g o true ∧ (∀ e ∈ k.cons, ∃ X, lkE E e = some X) ∧ OpOk P o (envl g) (fun e => if e ∈ k.uses ++ k.cons then lkE E e else none) k) ∨ (GuardIs ops g o false ∧ k = .idle)
def putg (d : Option Nat) (X : T) (g : List (Nat × T)) : List (Nat × T) := match d with | some t => (t, X) :: g | none => g
/-- Step by step, in the order of the text. -/
def J (P : Program) (ops : Array Oper) (fin : List OpS → List (Nat × T) → List (Nat × Option Ent) → Prop) : List Oper → List OpS → List (Nat × T) → List (Nat × Option Ent) → Prop
  | [], H, g, E => fin H g E
  | o :: r, H, g, E => ∃ k E', StepOk P ops g E o k ∧ (∀ f, lkE E' f = k.upd f (lkE E f)) ∧ J P ops fin r (k :: H) (putg o.dst k.out g) E'

def GR (g0 : List (Nat × T)) (ks : List OpS) (pre : List Oper) (g : List (Nat × T)) : Prop := ∀ t, lk g t = match wr (fun _ => true) t pre 0 none with | some j => (ks[j]?).map (·.out) | none => lk g0 t
def ER (E0 : List (Nat × Option Ent)) (ks : List OpS) (E : List (Nat × Option Ent)) : Prop := ∀ e, lkE E e = al (fun _ => true) e ks 0 (lkE E0 e)
theorem wr_append {d : Nat → Bool} {t : Nat} : ∀ (a b : List Oper) (s : Nat) (c : Option Nat), wr d t (a ++ b) s c = wr d t b (s + a.length) (wr d t a s c)
  | [], b, s, c => rfl
  | o :: r, b, s, c => by
    show wr d t (r ++ b) (s + 1) _ = _
    rw [wr_append r b (s + 1) _, List.length_cons, show s + 1 + r.length = s + (r.length + 1) by omega]
    rfl
theorem al_append {d : Nat → Bool} {e : Nat} : ∀ (a b : List OpS) (s : Nat) (c : Option Ent), al d e (a ++ b) s c = al d e b (s + a.length) (al d e a s c)
  | [], b, s, c => rfl
  | o :: r, b, s, c => by
    show al d e (r ++ b) (s + 1) _ = _
    rw [al_append r b (s + 1) _, List.length_cons, show s + 1 + r.length = s + (r.length + 1) by omega]
    rfl
theorem al_spec {d : Nat → Bool} {e : Nat} {Y : Ent} : ∀ (l : List OpS) (s : Nat) (c : Option Ent), al d e l s c = some Y → c = some Y ∨ ∃ j k, l[j]? = some k ∧ d (s + j) = true ∧ lk k.prod e = some Y
  | [], _, _, h => .inl h
  | k :: r, s, c, h => by
    unfold al at h
    rcases al_spec r (s + 1) _ h with h1 | ⟨j, k', h1, h2, h3⟩
    · split at h1
      · rename_i hd
        unfold OpS.upd at h1
        split at h1
        · rename_i X hX; cases h1; exact .inr ⟨0, k, by simp, by simpa using hd, hX⟩
        · split at h1
          · cases h1
          · exact .inl h1
      · exact .inl h1
    · exact .inr ⟨j + 1, k', by simpa using h1, by rw [show s + (j + 1) = s + 1 + j by omega]; exact h2, h3⟩
theorem J_run {P : Program} {ops : Array Oper} {fin : List OpS → List (Nat × T) → List (Nat × Option Ent) → Prop} {g0 : List (Nat × T)} {E0 : List (Nat × Option Ent)} : ∀ (r pre : List Oper) (H : List OpS) (g : List (Nat × T)) (E : List (Nat × Option Ent)),
    H.length = pre.length → GR g0 H.reverse pre g → ER E0 H.reverse E → J P ops fin r H g E →
    ∃ L g' E', L.length = r.length ∧ fin (L.reverse ++ H) g' E' ∧ GR g0 (H.reverse ++ L) (pre ++ r) g' ∧ ER E0 (H.reverse ++ L) E' ∧
      ∀ i k, L[i]? = some k → ∃ o gi Ei, r[i]? = some o ∧ GR g0 (H.reverse ++ L.take i) (pre ++ r.take i) gi ∧ ER E0 (H.reverse ++ L.take i) Ei ∧ StepOk P ops gi Ei o k
  | [], pre, H, g, E, hl, hg, hE, h => ⟨[], g, E, rfl, h, by simpa using hg, by simpa using hE, by simp⟩
  | o :: r, pre, H, g, E, hl, hg, hE, h => by
    obtain ⟨k, E', hs, hu, hJ⟩ := h
    have hg' : GR g0 (k :: H).reverse (pre ++ [o]) (putg o.dst k.out g) := fun t => by
      rw [wr_append, List.reverse_cons]
      unfold wr wr
      simp only [Bool.true_and, Nat.zero_add]
      have old : o.dst ≠ some t → lk (putg o.dst k.out g) t = lk g t := fun hd => by
        unfold putg
        split
        · rename_i t' ht
          rw [lk_cons, if_neg (fun e => hd (by rw [ht, e]))]
        · rfl
      by_cases hd : o.dst = some t
      · rw [hd]
        simp only [beq_self_eq_true, if_true]
        unfold putg
        rw [lk_cons, if_pos rfl, List.getElem?_append_right (by simp [hl])]
        simp [hl]
      · have hb : (o.dst == some t) = false := by simpa using hd
        rw [hb, old hd, hg t]
        simp only [Bool.false_eq_true, if_false]
        split
        · rename_i j hj
          have hlt : j < H.reverse.length := by
            rcases wr_spec _ _ _ _ hj with h1 | ⟨_, _, o', h1, _⟩
            · cases h1
            · have := (List.getElem?_eq_some_iff.1 h1).1
              simp; omega
          rw [List.getElem?_append_left hlt]
        · rfl
    have hE' : ER E0 (k :: H).reverse E' := fun e => by
      rw [List.reverse_cons, al_append, hu e, hE e]
      rfl
    obtain ⟨L, g', E'', h1, h2, h3, h4, h5⟩ := J_run r (pre ++ [o]) (k :: H) _ _ (by simp [hl]) hg' hE' hJ
    refine ⟨k :: L, g', E'', by simp [h1], by simpa using h2, by simpa using h3, by simpa using h4, fun i q hi => ?_⟩
    cases i with
    | zero => simp at hi; subst hi; exact ⟨o, g, E, by simp, by simpa using hg, by simpa using hE, hs⟩
    | succ i =>
      obtain ⟨o', gi, Ei, k1, k2, k3, k4⟩ := h5 i q (by simpa using hi)
      exact ⟨o', gi, Ei, by simpa using k1, by simpa using k2, by simpa using k3, k4⟩

/-! ### the law of regions -/
structure Ctx where
  w0 : World
  u0 : World
  own : Nat → Prop
  β0 : Env
  I : List Nat
def InSt (c : Ctx) (n : Nat) (g : List (Nat × T)) (E : List (Nat × Option Ent)) (a : Act) (w : World) : Prop := ∃ β u F, a.defers = [] ∧ a.tmps.size = n ∧ (∀ t X, lk g t = some X → ∃ v, a.tmps[t]? = some v ∧ X.rep β u v) ∧
  Hold β u w F (lkE E) ∧ Tr c.own c.u0 c.w0 u w ∧ (∀ e X k, lkE E e = some X → F e k → c.own k ∨ c.w0.heap.size ≤ k) ∧ ∀ e ∈ c.I, β e = c.β0 e
section
variable {P : Program} {Q : Exit → Act → World → Prop} {ops : Array Oper} {c : Ctx} {n : Nat} {g0 : List (Nat × T)} {E0 : List (Nat × Option Ent)} {ks : List OpS}
def sv (ops : Array Oper) (d : Nat → Bool) (f v0 : Nat → Value) (t : Nat) : Value := match wr d t ops.toList 0 none with | some j => f j | none => v0 t
structure RT (c : Ctx) (ops : Array Oper) (n : Nat) (g0 : List (Nat × T)) (E0 : List (Nat × Option Ent)) (ks : List OpS) (d : Nat → Bool) (f v0 : Nat → Value) (β : Env) (u : World) (F : FP) (a : Act) (w : World) : Prop where
  clo : ∀ i j, Dep ops i j → d j = true → d i = true
  defers : a.defers = []
  size : a.tmps.size = n
  slot : ∀ t, t < n → a.tmps[t]? = some (sv ops d f v0 t)
  ini : ∀ t X, lk g0 t = some X → t < n ∧ X.rep β u (v0 t)
  outs : ∀ j k, ks[j]? = some k → d j = true → k.out.rep β u (f j)
  hold : Hold β u w F (fun e => al d e ks 0 (lkE E0 e))
  tr : Tr c.own c.u0 c.w0 u w
  fp : ∀ e X k, al d e ks 0 (lkE E0 e) = some X → F e k → c.own k ∨ c.w0.heap.size ≤ k
  names : ∀ e ∈ c.I, β e = c.β0 e
theorem RT.reach {d : Nat → Bool} {f v0 : Nat → Value} {β : Env} {u w : World} {F : FP} {a : Act} (h : RT c ops n g0 E0 ks d f v0 β u F a w) {j i : Nat} (hr : Reach ops j i) : d i = true → d j = true := by
  induction hr with
  | one hd => exact h.clo _ _ hd
  | step _ hd ih => exact fun hi => ih (h.clo _ _ hd hi)
theorem lkE_base {E : List (Nat × Option Ent)} {e : Nat} {X : Ent} (h : lkE E e = some X) : e ∈ nsE E ∧ ∀ q ∈ X.ns, q ∈ nsE E := by
  unfold lkE at h
  cases hl : lk E e with
  | none => rw [hl] at h; cases h
  | some y =>
    rw [hl] at h
    have hy : y = some X := h
    subst hy
    have hm := lk_mem hl
    unfold nsE
    exact ⟨List.mem_flatMap.2 ⟨_, hm, List.mem_cons_self⟩, fun q hq => List.mem_flatMap.2 ⟨_, hm, List.mem_cons_of_mem _ hq⟩⟩
theorem lk_base {g : List (Nat × T)} {t : Nat} {X : T} (h : lk g t = some X) : ∀ q ∈ X.ns, q ∈ nsOf g := fun q hq => List.mem_flatMap.2 ⟨_, lk_mem h, hq⟩
def upd (f : Nat → Value) (i : Nat) (v : Value) : Nat → Value := fun k => if k = i then v else f k
theorem mem_tmps {t : Nat} {o : Oper} {ops : Array Oper} (h : Operand.tmp t ∈ o.op.operands) : t ∈ reads ops o := by
  unfold reads tmpsOf
  exact List.mem_append_left _ (List.mem_filterMap.2 ⟨.tmp t, by simpa using h, rfl⟩)
/-- What okR says of operation i, where those of d have come up, i not. -/
structure At (ops : Array Oper) (n : Nat) (base : List Nat) (ks : List OpS) (d : Nat → Bool) (i : Nat) (o : Oper) (k : OpS) : Prop where
  dst : ∀ t, o.dst = some t → t < n
  wrs : ∀ t, (o.dst = some t ∨ t ∈ reads ops o) → ∀ j o', ops[j]? = some o' → o'.dst = some t → j ≠ i → d j = decide (j < i)
  fresh : ∀ e ∈ k.news, e ∉ base
  prod : ∀ e X, lk k.prod e = some X → e ∈ k.cons ∨ e ∈ k.news
  tch : ∀ j q e, ks[j]? = some q → j ≠ i → e ∈ k.acc → e ∈ q.touch → d j = decide (j < i)
  tch' : ∀ j q e, ks[j]? = some q → j ≠ i → e ∈ k.touch → e ∈ q.acc → d j = decide (j < i)
  apart : ∀ j q e, ks[j]? = some q → d j = true → e ∈ k.news → e ∉ q.ns ∧ e ∉ Names q.prod
theorem okR_dst {M : List Nat} (h : slotsOk ops M n = true) {i : Nat} {o : Oper} (ho : ops[i]? = some o) : (∀ t, o.dst = some t → t < n) ∧ (∀ j, Dep ops j i → j < i) ∧ ∀ t, (o.dst = some t ∨ t ∈ reads ops o) → ∀ j o', ops[j]? = some o' → o'.dst = some t → j ≠ i → (j < i → dp M j i = true) ∧ (i < j → dp M i j = true) := by
  unfold slotsOk at h
  simp only [List.all_eq_true] at h
  have h1 := h (i, o) (by have := zipI_mem (l := ops.toList) (s := 0) (j := i) (x := o) (by simpa using ho); simpa using this)
  simp only [Bool.and_eq_true, List.all_eq_true] at h1
  obtain ⟨⟨h2, h3⟩, h4⟩ := h1
  refine ⟨fun t ht => Nat.le_of_ble_eq_true (h2 t (by simp [ht])), fun j ⟨o', ho', e, he, hb, hj⟩ => ?_, fun t ht j o' hj hd hne => ?_⟩
  · rw [ho] at ho'; cases ho'
    have := h3 e (by simpa using he)
    rw [hb, hj] at this
    exact Nat.le_of_ble_eq_true (by simpa [Nat.blt] using this)
  · have hm : (j, t) ∈ (zipI ops.toList 0).filterMap fun p => p.2.dst.map fun t => (p.1, t) := List.mem_filterMap.2 ⟨(j, o'), by have := zipI_mem (l := ops.toList) (s := 0) (j := j) (x := o') (by simpa using hj); simpa using this, by simp [hd]⟩
    have h5 := h4 (j, t) hm
    have hc : (o.dst.toList ++ reads ops o).contains t = true := by
      simp only [List.contains_eq_mem, List.mem_append, decide_eq_true_eq]
      rcases ht with ht | ht
      · exact .inl (by simp [ht])
      · exact .inr ht
    have hi : (i == j) = false := by simpa using Ne.symm hne
    simp only [hc, hi, Bool.not_true, Bool.or_false, Bool.false_or] at h5
    constructor
    · intro hl
      have : Nat.blt j i = true := Nat.ble_eq_true_of_le hl
      rwa [this] at h5
    · intro hl
      have : Nat.blt j i = false := by
        cases hb : Nat.blt j i with
        | false => rfl
        | true => have := Nat.le_of_ble_eq_true hb; omega
      rwa [this] at h5
theorem at_of {H : List OpS} {I : List Nat} (hks : ks = H.reverse) (hok : slotsOk ops (masks ops.toList []) n = true) (hmem : memOk (masks ops.toList []) (I ++ (nsOf g0 ++ nsE E0)) (zipI ks 0) = true)
    {d : Nat → Bool} {f v0 : Nat → Value} {β : Env} {u w : World} {F : FP} {a : Act} (hT : RT c ops n g0 E0 ks d f v0 β u F a w) {i : Nat} {o : Oper} {k : OpS} (ho : ops[i]? = some o) (hk : ks[i]? = some k) (hi : d i = false) (hdep : ∀ j, Dep ops j i → d j = true) :
    At ops n (I ++ (nsOf g0 ++ nsE E0)) ks d i o k := by
  have hM : ∀ i j, dp (masks ops.toList []) j i = true → Reach ops j i := fun i j h => masks_spec ops.toList [] rfl (fun i j h => by simp at h) i j h
  have hin : ∀ j, Reach ops j i → d j = true := fun j hr => by
    cases hr with
    | one h => exact hdep _ h
    | step h h' => exact hT.reach h (hdep _ h')
  have hout : ∀ j, Reach ops i j → d j = false := fun j hr => by
    cases hq : d j with
    | false => rfl
    | true => have := hT.reach hr hq; rw [hi] at this; cases this
  have ord : ∀ j, j ≠ i → (j < i → Reach ops j i) → (i < j → Reach ops i j) → d j = decide (j < i) := fun j hne h1 h2 => by
    rcases Nat.lt_or_gt_of_ne hne with h | h
    · rw [hin j (h1 h)]; simp [h]
    · rw [hout j (h2 h)]; simp; omega
  obtain ⟨h1, _, h3⟩ := okR_dst hok ho
  obtain ⟨⟨m1, m2⟩, m3⟩ := memOk_at hmem hk
  refine ⟨h1, fun t ht j o' hj hd hne => ?_, fun e he => (m1 e he).1, fun e X hX => m2 e (by unfold Names; exact List.mem_map.2 ⟨_, lk_mem hX, rfl⟩), fun j q e hq hne he he' => ?_, fun j q e hq hne he he' => ?_, fun j q e hq hd he => ?_⟩
  · obtain ⟨k1, k2⟩ := h3 t ht j o' hj hd hne
    exact ord j hne (fun h => hM _ _ (k1 h)) (fun h => hM _ _ (k2 h))
  · refine ord j hne (fun h => hM _ _ ?_) (fun h => hM _ _ ?_)
    · have := ((memOk_at hmem hq).2 hk h).1 (by rw [meet_of he' he]; rfl)
      simpa using this
    · have := (m3 hq h).1 (by rw [meet_of he he', Bool.or_true]; rfl)
      simpa using this
  · refine ord j hne (fun h => hM _ _ ?_) (fun h => hM _ _ ?_)
    · have := ((memOk_at hmem hq).2 hk h).1 (by rw [meet_of he' he, Bool.or_true]; rfl)
      simpa using this
    · have := (m3 hq h).1 (by rw [meet_of he he']; rfl)
      simpa using this
  · have hne : j ≠ i := fun e => by rw [e, hi] at hd; cases hd
    rcases Nat.lt_or_gt_of_ne hne with h | h
    · have := ((memOk_at hmem hq).2 hk h).2 e he
      refine ⟨this.1, fun h' => this.2 ?_⟩
      unfold OpS.acc OpS.touch
      exact List.mem_append_right _ (List.mem_append_right _ h')
    · refine ⟨fun h' => ?_, fun h' => ?_⟩
      · have := (m3 hq h).1 (by rw [meet_of he h', Bool.or_true])
        have := hout j (hM _ _ (by simpa using this))
        rw [hd] at this; cases this
      · have hacc : e ∈ q.acc := by unfold OpS.acc OpS.touch; exact List.mem_append_right _ (List.mem_append_right _ h')
        have ht : e ∈ k.touch := List.mem_append_right _ (m1 e he).2.2.2
        have := (m3 hq h).1 (by rw [meet_of ht hacc]; rfl)
        have := hout j (hM _ _ (by simpa using this))
        rw [hd] at this; cases this
theorem wr_lt {d : Nat → Bool} {i t : Nat} : wr (fun j => decide (j < i)) t ops.toList 0 none = wr (fun _ => true) t (ops.toList.take i) 0 none := by
  conv => lhs; rw [← List.take_append_drop i ops.toList]
  rw [wr_append, wr_id (d := fun j => decide (j < i)) (ops.toList.drop i)]
  · refine wr_congr _ _ _ (fun j o hj _ => ?_)
    have := (List.getElem?_eq_some_iff.1 hj).1
    simp only [List.length_take] at this
    simp; omega
  · intro j o hj _
    have h1 := (List.getElem?_eq_some_iff.1 hj).1
    simp only [List.length_drop] at h1
    simp only [List.length_take, Nat.zero_add, decide_eq_false_iff_not]
    omega
theorem al_lt {i e : Nat} {c0 : Option Ent} : al (fun j => decide (j < i)) e ks 0 c0 = al (fun _ => true) e (ks.take i) 0 c0 := by
  conv => lhs; rw [← List.take_append_drop i ks]
  rw [al_append, al_id (d := fun j => decide (j < i)) (ks.drop i)]
  · refine al_congr _ _ _ (fun j o hj _ => ?_)
    have := (List.getElem?_eq_some_iff.1 hj).1
    simp only [List.length_take] at this
    simp; omega
  · intro j o hj _
    have h1 := (List.getElem?_eq_some_iff.1 hj).1
    simp only [List.length_drop] at h1
    simp only [List.length_take, Nat.zero_add, decide_eq_false_iff_not]
    omega
theorem Hold.none (β : Env) (u w : World) (F : FP) : Hold β u w F (lk []) := ⟨(fun e X h => by cases h), (fun e X q h => by cases h), (fun e f X Y q h => by cases h)⟩
/-- A value has come up: the state behind. -/
theorem t_put {d : Nat → Bool} {f v0 : Nat → Value} {β β' : Env} {u w u' w' : World} {F F' : FP} {a : Act} {i : Nat} {o : Oper} {k : OpS} {base : List Nat} (hbase : base = c.I ++ (nsOf g0 ++ nsE E0)) (hT : RT c ops n g0 E0 ks d f v0 β u F a w) (hA : At ops n base ks d i o k) (ho : ops[i]? = some o) (hk : ks[i]? = some k) (hi : d i = false) (hdep : ∀ j, Dep ops j i → d j = true)
    (hcons : ∀ e ∈ k.cons, ∃ X, al d e ks 0 (lkE E0 e) = some X) {v : Value} (hb : ∀ e, e ∉ k.news → β' e = β e) (ht : Tr (Fp F k.cons) u w u' w') (hO : Hold β' u' w' F' (lk k.prod)) (hF : ∀ e X q, lk k.prod e = some X → F' e q → Fp F k.cons q ∨ w.heap.size ≤ q) (hv : k.out.rep β' u' v) :
    RT c ops n g0 E0 ks (add d i) (upd f i v) v0 β' u' (fun e => if (lk k.prod e).isSome then F' e else F e) (a.put o.dst v) w' := by
  have hadd : ∀ e, al (add d i) e ks 0 (lkE E0 e) = match lk k.prod e with | some X => some X | none => if e ∈ k.cons then none else al d e ks 0 (lkE E0 e) := fun e => by
    by_cases he : e ∈ k.touch
    · rw [al_add hi ks 0 _ (Nat.zero_le _) (by simpa using hk) (fun j q hj ht hlt => by
        have := hA.tch' j q e hj (by omega) he (by unfold OpS.acc; exact List.mem_append_right _ ht)
        rw [Nat.zero_add, this]; simp; omega)]
      unfold OpS.upd
      cases lk k.prod e <;> simp
    · rw [al_congr (d := add d i) (d' := d) ks 0 _ (fun j q hj ht => add_ne d (fun e1 => by
        rw [Nat.zero_add] at e1; subst e1; rw [hk] at hj; cases hj; exact he ht))]
      have h1 : lk k.prod e = none := lk_names (fun h => he (List.mem_append_right _ h))
      rw [h1]
      simp only
      rw [if_neg (fun h => he (List.mem_append_left _ h))]
  have hfp : ∀ b, Fp F k.cons b → c.own b ∨ c.w0.heap.size ≤ b := fun b ⟨e, he, hb⟩ => by
    obtain ⟨X, hX⟩ := hcons e he
    exact hT.fp e X b hX hb
  have hfr := frame (O := lk k.prod) (C := k.cons) (N := k.news) hT.hold (fun f Y hf hfc hfo => by
    have nb : ∀ e ∈ k.news, e ∉ nsE E0 := fun e he h => hA.fresh e he (by rw [hbase]; simp [h])
    rcases al_spec _ _ _ hf with h1 | ⟨j, q, h1, h2, h3⟩
    · obtain ⟨b1, b2⟩ := lkE_base h1
      exact ⟨fun h => nb f h b1, fun e he h => nb e h (b2 e he)⟩
    · rw [Nat.zero_add] at h2
      refine ⟨fun h => (hA.apart j q f h1 h2 h).2 (by unfold Names; exact List.mem_map.2 ⟨_, lk_mem h3, rfl⟩), fun e he h => (hA.apart j q e h1 h2 h).1 ?_⟩
      unfold OpS.ns
      exact List.mem_append_right _ (List.mem_flatMap.2 ⟨_, lk_mem h3, he⟩)) hb ht hO hF hcons
  refine ⟨fun p j hp hj => ?_, ?_, ?_, fun t htn => ?_, fun t X hX => ?_, fun j q hq hj => ?_, ?_, hT.tr.trans ht hfp, fun e X b he hFb => ?_, fun e he => ?_⟩
  · unfold add at *
    by_cases hji : j = i
    · subst hji; simp [hdep p hp]
    · simp [hji] at hj
      simp [hT.clo p j hp hj]
  · cases hd : o.dst <;> exact hT.defers
  · cases hd : o.dst with
    | none => exact hT.size
    | some q => simpa [Act.put] using hT.size
  · unfold sv
    have hwr : wr (add d i) t ops.toList 0 none = if o.dst = some t then some i else wr d t ops.toList 0 none :=
      wr_add hi ops.toList 0 none (Nat.zero_le _) (by simpa using ho) (fun j o' hj hd h0 hlt => by
        have := hA.wrs t (.inl h0) j o' (by simpa using hj) hd (by omega)
        rw [Nat.zero_add, this]; simp; omega)
    rw [hwr]
    by_cases hd : o.dst = some t
    · rw [if_pos hd, hd]
      simp only
      unfold Act.put
      rw [Array.getElem?_setIfInBounds_self_of_lt (by rw [hT.size]; exact htn)]
      simp [upd]
    · rw [if_neg hd]
      have e1 : (a.put o.dst v).tmps[t]? = a.tmps[t]? := by
        cases ho' : o.dst with
        | none => rfl
        | some q =>
          have hq : q ≠ t := fun e => hd (by rw [ho', e])
          simp [Act.put, hq]
      rw [e1, hT.slot t htn]
      unfold sv
      split
      · rename_i j hj
        rcases wr_spec _ _ _ _ hj with h1 | ⟨_, h2, _⟩
        · cases h1
        · unfold upd
          rw [if_neg (fun e => by rw [e, hi] at h2; cases h2)]
      · rfl
  · obtain ⟨h1, h2⟩ := hT.ini t X hX
    exact ⟨h1, X.mono ht.old (X.ext (fun e he => hb e (fun h => hA.fresh e h (by rw [hbase]; simp [lk_base hX e he]))) h2)⟩
  · by_cases hji : j = i
    · subst hji
      rw [hk] at hq; cases hq
      unfold upd
      rw [if_pos rfl]
      exact hv
    · rw [add_ne d hji] at hj
      unfold upd
      rw [if_neg hji]
      exact q.out.mono ht.old (q.out.ext (fun e he => hb e (fun h => (hA.apart j q e hq hj h).1 (by unfold OpS.ns; exact List.mem_append_left _ he))) (hT.outs j q hq hj))
  · have : (fun e => al (add d i) e ks 0 (lkE E0 e)) = fun e => match lk k.prod e with | some X => some X | none => if e ∈ k.cons then none else al d e ks 0 (lkE E0 e) := funext hadd
    rw [this]
    exact hfr
  · rw [hadd e] at he
    cases hp : lk k.prod e with
    | some Y =>
      rw [hp] at hFb
      simp only [Option.isSome_some, if_true] at hFb
      rcases hF e Y b hp hFb with h1 | h1
      · exact hfp b h1
      · exact .inr (Nat.le_trans hT.tr.size h1)
    | none =>
      rw [hp] at he hFb
      simp only [Option.isSome_none, Bool.false_eq_true, if_false] at he hFb
      split at he
      · cases he
      · exact hT.fp e X b he hFb
  · rw [hb e (fun h => hA.fresh e h (by rw [hbase]; simp [he]))]
    exact hT.names e he
theorem t_step {H : List OpS} (hks : ks = H.reverse) (hok : slotsOk ops (masks ops.toList []) n = true) (hsel : Region.noSelect ops = true) (hmem : memOk (masks ops.toList []) (c.I ++ (nsOf g0 ++ nsE E0)) (zipI ks 0) = true)
    (hrun : ∀ i k, ks[i]? = some k → ∃ o gi Ei, ops[i]? = some o ∧ GR g0 (ks.take i) (ops.toList.take i) gi ∧ ER E0 (ks.take i) Ei ∧ StepOk P ops gi Ei o k)
    {d : Nat → Bool} {f v0 : Nat → Value} {β : Env} {u w : World} {F : FP} {a : Act} (hT : RT c ops n g0 E0 ks d f v0 β u F a w) {i : Nat} {o : Oper} (ho : ops[i]? = some o) {k : OpS} (hk : ks[i]? = some k) (hi : d i = false) (hdep : ∀ j, Dep ops j i → d j = true) :
    wpOp P ops Q i (fun a' w' => ∃ f β u F, RT c ops n g0 E0 ks (add d i) f v0 β u F a' w') a w := by
  have hA := at_of hks hok hmem hT ho hk hi hdep
  obtain ⟨o', gi, Ei, ho', hg, hE, hs⟩ := hrun i k hk
  rw [ho] at ho'; cases ho'
  have hslot : ∀ t, t ∈ reads ops o → ∀ X, lk gi t = some X → t < n ∧ X.rep β u (sv ops d f v0 t) := fun t ht X hX => by
    rw [hg t, ← wr_lt (d := d)] at hX
    have hw : wr d t ops.toList 0 none = wr (fun j => decide (j < i)) t ops.toList 0 none := wr_congr _ _ _ (fun j o' hj hd => by
      rw [Nat.zero_add]
      by_cases hji : j = i
      · subst hji; rw [hi]; simp
      · exact hA.wrs t (.inr ht) j o' (by simpa using hj) hd hji)
    unfold sv
    rw [hw]
    cases hq : wr (fun j => decide (j < i)) t ops.toList 0 none with
    | none =>
      rw [hq] at hX
      exact hT.ini t X hX
    | some j =>
      rw [hq] at hX
      obtain ⟨q, hq1, hq2⟩ := Option.map_eq_some_iff.1 hX
      rw [← hw] at hq
      rcases wr_spec _ _ _ _ hq with h1 | ⟨_, h2, oj, h3, h4⟩
      · cases h1
      · rw [List.getElem?_take] at hq1
        split at hq1
        · subst hq2
          exact ⟨(okR_dst hok (show ops[j]? = some oj by simpa using h3)).1 t h4, hT.outs j q hq1 h2⟩
        · cases hq1
  have heval : ∀ x ∈ o.op.operands, ∀ X, envl gi x = some X → X.rep β u (a.eval x) := fun x hx X hX => by
    cases x with
    | tmp t =>
      obtain ⟨h1, h2⟩ := hslot t (mem_tmps hx) X hX
      have := hT.slot t h1
      simp only [Act.eval, Array.getD_eq_getD_getElem?, this, Option.getD_some]
      exact h2
    | const v => cases hX; rfl
    | global q => cases hX; rfl
    | func q => cases hX; rfl
  have hwant : ∀ b, GuardIs ops gi o b → Region.wanted o (yielded ops a.tmps) = b := fun b hg => by
    rcases hg with ⟨h1, rfl⟩ | ⟨q, cc, t, e, h1, h2, h3, rfl⟩ | ⟨rfl, q, cc, t, h1, h2, h3⟩
    · unfold Region.wanted; rw [h1]
    · have ht : t ∈ reads ops o := by
        unfold reads
        rw [h1]
        exact List.mem_append_right _ (by simp [h2])
      obtain ⟨k1, k2⟩ := hslot t ht _ h3
      have h4 := hT.slot t k1
      rw [show sv ops d f v0 t = .bool e from k2] at h4
      unfold Region.wanted
      rw [h1]
      have : yielded ops a.tmps q = some e := by
        unfold yielded
        rw [h2]
        simp [h4]
      show (yielded ops a.tmps q == some cc) = _
      rw [this]
      simp
    · have ht : t ∈ reads ops o := by
        unfold reads
        rw [h1]
        exact List.mem_append_right _ (by simp [h2])
      obtain ⟨k1, k2⟩ := hslot t ht _ h3
      have h4 := hT.slot t k1
      rw [show sv ops d f v0 t = undef from k2] at h4
      unfold Region.wanted
      rw [h1]
      have : yielded ops a.tmps q = none := by
        unfold yielded
        rw [h2]
        simp [h4, undef]
      show (yielded ops a.tmps q == some cc) = _
      rw [this]
      rfl
  unfold wpOp
  simp only [ho]
  rcases hs with ⟨hgd, hcons, hop⟩ | ⟨hgd, rfl⟩
  · rw [hwant true hgd, if_pos rfl]
    refine .inl ?_
    have hal : ∀ e ∈ k.uses ++ k.cons, al d e ks 0 (lkE E0 e) = lkE Ei e := fun e he => by
      rw [hE e, ← al_lt]
      refine al_congr _ _ _ (fun j q hj ht => ?_)
      rw [Nat.zero_add]
      by_cases hji : j = i
      · subst hji; rw [hi]; simp
      · exact hA.tch j q e hj hji (by
          unfold OpS.acc OpS.touch
          rcases List.mem_append.1 he with h | h
          · exact List.mem_append_left _ h
          · exact List.mem_append_right _ (List.mem_append_left _ h)) ht
    have hsub : ∀ e X, (if e ∈ k.uses ++ k.cons then lkE Ei e else none) = some X → al d e ks 0 (lkE E0 e) = some X := fun e X h => by
      split at h
      · rename_i he; rw [hal e he]; exact h
      · cases h
    have hres := hop a.eval β u w F hT.tr.sub heval ⟨fun e X h => hT.hold.hold e X (hsub e X h), fun e X q h => hT.hold.dead e X q (hsub e X h), fun e e' X Y q h h' => hT.hold.apart e e' X Y q (hsub e X h) (hsub e' Y h')⟩
    have hcons' : ∀ e ∈ k.cons, ∃ X, al d e ks 0 (lkE E0 e) = some X := fun e he => by
      rw [hal e (List.mem_append_right _ he)]; exact hcons e he
    have fin : ∀ v w', After β u w F k.cons (lk k.prod) k.news k.out v w' → ∃ f β u F, RT c ops n g0 E0 ks (add d i) f v0 β u F (a.put o.dst v) w' := fun v w' ⟨u', β', F', h1, h2, h3, h4, h5⟩ =>
      ⟨_, β', u', _, t_put rfl hT hA ho hk hi hdep hcons' h1 h2 h3 h4 h5⟩
    unfold Oper.wp
    unfold Res at hres
    split at hres
    · rename_i h; rw [h]; exact fin _ _ hres
    · rename_i h; rw [h]; exact fin _ _ hres
    · rename_i h
      rw [h]
      refine Calls.mono hres (fun e w' he => ?_)
      obtain ⟨v, rfl, hv⟩ := he
      exact fin _ _ hv
    · rename_i h
      rw [h]
      exact Go.Rows.mono hres (fun v w' hv => fin _ _ hv)
    · exact hres.elim
  · rw [hwant false hgd, if_neg (by simp)]
    exact ⟨_, β, u, _, t_put rfl hT hA ho hk hi hdep (fun e he => absurd he (List.not_mem_nil)) (β' := β) (F' := F) (v := undef) (fun _ _ => rfl) (Tr.refl hT.tr.sub) (Hold.none β u w F) (fun e X q h => by cases h) rfl⟩
def allD (ops : Array Oper) : Nat → Bool := fun k => decide (k < ops.size)
theorem getD_set (l : Array Bool) (i k : Nat) (hi : i < l.size) : (l.setIfInBounds i true).getD k false = (k == i || l.getD k false) := by
  by_cases h : k = i
  · subst h; simp [hi]
  · have h' : (k == i) = false := by simpa using h
    rw [h', Bool.false_or, Array.getD_eq_getD_getElem?, Array.getD_eq_getD_getElem?, Array.getElem?_setIfInBounds_ne (Ne.symm h)]
theorem ready_all (hlt : ∀ i j, Dep ops j i → j < i) (l : Array Bool) (hl : l.size = ops.size) (hr : Region.ready .any ops l = []) : ∀ k, k < ops.size → l.getD k false = true := by
  intro k
  induction k using Nat.strongRecOn with
  | _ k ih =>
    intro hk
    cases hq : l.getD k false with
    | true => rfl
    | false =>
      have hm : k ∈ Region.ready .any ops l := mem_ready.2 ⟨by simp [hl, hk] at hq ⊢; exact hq, ops[k], Array.getElem?_eq_getElem hk, fun e he hb => by
        have := hlt k e.on ⟨_, Array.getElem?_eq_getElem hk, e, he, hb, rfl⟩
        exact ih _ this (by omega)⟩
      rw [hr] at hm
      cases hm
def left (l : Array Bool) : Nat := (l.toList.filter (· == false)).length
theorem left_set {l : Array Bool} {i : Nat} (hi : i < l.size) (hf : l.getD i true = false) : left (l.setIfInBounds i true) + 1 = left l := by
  have aux : ∀ (l : List Bool) (i : Nat), l[i]? = some false → ((l.set i true).filter (· == false)).length + 1 = (l.filter (· == false)).length := by
    intro l
    induction l with
    | nil => intro i h; simp at h
    | cons x r ih =>
      intro i h
      cases i with
      | zero => simp at h; subst h; simp
      | succ i =>
        have := ih i (by simpa using h)
        cases x <;> simp_all <;> omega
  unfold left
  rw [Array.toList_setIfInBounds]
  exact aux _ _ (by simp [hi] at hf ⊢; exact hf)
theorem any_of {S : (Nat → Bool) → Act → World → Prop} (hlt : ∀ i j, Dep ops j i → j < i) (step : ∀ d i o a w, S d a w → ops[i]? = some o → d i = false → (∀ j, Dep ops j i → d j = true) → wpOp P ops Q i (fun a' w' => S (add d i) a' w') a w) (fin : ∀ a w, S (allD ops) a w → Q .normal a w) :
    ∀ (fuel : Nat) (l : Array Bool) (a : Act) (w : World), l.size = ops.size → left l ≤ fuel → S (fun k => l.getD k false) a w → wpAny P .any ops Q fuel l a w := by
  have done : ∀ (l : Array Bool) (a : Act) (w : World), l.size = ops.size → Region.ready .any ops l = [] → S (fun k => l.getD k false) a w → Q .normal a w := fun l a w hl hr hT => by
    have e : (fun k => l.getD k false) = allD ops := by
      funext k
      unfold allD
      by_cases hk : k < ops.size
      · rw [ready_all hlt l hl hr k hk]; simp [hk]
      · simp [hk, Array.getElem?_eq_none (show l.size ≤ k by omega)]
    rw [e] at hT
    exact fin a w hT
  intro fuel
  induction fuel with
  | zero =>
    intro l a w hl hf hT
    have hr : Region.ready .any ops l = [] := by
      cases hr : Region.ready .any ops l with
      | nil => rfl
      | cons i r =>
        have hm : i ∈ Region.ready .any ops l := by rw [hr]; simp
        obtain ⟨h1, o, ho, _⟩ := mem_ready.1 hm
        have hi : i < l.size := by rw [hl]; exact (Array.getElem?_eq_some_iff.1 ho).1
        have := left_set hi h1
        omega
    exact ⟨hr, done l a w hl hr hT⟩
  | succ fuel ih =>
    intro l a w hl hf hT
    refine ⟨fun hr => done l a w hl hr hT, fun i hi => ?_⟩
    obtain ⟨h1, o, ho, hall⟩ := mem_ready.1 hi
    have hlt' : i < l.size := by rw [hl]; exact (Array.getElem?_eq_some_iff.1 ho).1
    have hst := step _ i o a w hT ho (by simp [hlt'] at h1 ⊢; exact h1) (fun j ⟨o', ho', e, he, hb, hj⟩ => by
      rw [ho] at ho'; cases ho'
      rw [← hj]
      exact hall e he hb)
    refine wpOp_mono (fun a' w' hT' => ih _ a' w' (by simpa using hl) (by have := left_set hlt' h1; omega) ?_) hst
    have e : (fun k => (l.setIfInBounds i true).getD k false) = add (fun k => l.getD k false) i := by
      funext k
      rw [getD_set l i k hlt']
      rfl
    rw [e]
    exact hT'
theorem seq_of {S : (Nat → Bool) → Act → World → Prop} (hlt : ∀ i j, Dep ops j i → j < i) (step : ∀ d i o a w, S d a w → ops[i]? = some o → d i = false → (∀ j, Dep ops j i → d j = true) → wpOp P ops Q i (fun a' w' => S (add d i) a' w') a w) (fin : ∀ a w, S (allD ops) a w → Q .normal a w) :
    ∀ (m s : Nat) (a : Act) (w : World), s + m = ops.size → S (fun k => decide (k < s)) a w → wpOps P ops Q (List.range' s m) a w := by
  intro m
  induction m with
  | zero =>
    intro s a w hs hT
    simp only [List.range'_zero, wpOps]
    refine fin a w ?_
    have : s = ops.size := by omega
    subst this
    exact hT
  | succ m ih =>
    intro s a w hs hT
    rw [List.range'_succ, wpOps_cons]
    have hst := step _ s _ a w hT (Array.getElem?_eq_getElem (show s < ops.size by omega)) (by simp) (fun k hk => by have := hlt s k hk; simpa using this)
    refine wpOp_mono (fun a' w' hT' => ih (s + 1) a' w' (by omega) ?_) hst
    have e : (fun k => decide (k < s + 1)) = add (fun k => decide (k < s)) s := by
      funext k
      unfold add
      rw [Bool.eq_iff_iff]
      simp only [decide_eq_true_eq, Bool.or_eq_true, beq_iff_eq]
      omega
    rw [e]
    exact hT'
/-- A region. -/
theorem wp_reg (hm : P.follows .mixedOrders = true) {a : Act} {w : World} (hS : InSt c n g0 E0 a w)
    (hJ : J P ops (fun H g E => (slotsOk ops (masks ops.toList []) n && Region.noSelect ops && memOk (masks ops.toList []) (c.I ++ (nsOf g0 ++ nsE E0)) (zipI H.reverse 0)) = true ∧ ∀ a w, InSt c n g E a w → Q .normal a w) ops.toList [] g0 E0) (id : Nat) (draw : Bool) : (Code.region id ops draw).wp P Q a w := by
  obtain ⟨ks, g', E', hl, ⟨hok, hfin⟩, hg, hE, hrun⟩ := J_run ops.toList [] [] g0 E0 rfl (fun t => rfl) (fun e => rfl) hJ
  simp only [List.append_nil, List.reverse_reverse, Bool.and_eq_true] at hok
  simp only [List.reverse_nil, List.nil_append] at hg hE
  obtain ⟨⟨hok1, hok2⟩, hok3⟩ := hok
  have hrun' : ∀ i k, ks[i]? = some k → ∃ o gi Ei, ops[i]? = some o ∧ GR g0 (ks.take i) (ops.toList.take i) gi ∧ ER E0 (ks.take i) Ei ∧ StepOk P ops gi Ei o k := fun i k hk => by
    obtain ⟨o, gi, Ei, h1, h2, h3, h4⟩ := hrun i k hk
    exact ⟨o, gi, Ei, by simpa using h1, by simpa using h2, by simpa using h3, h4⟩
  have hlt : ∀ i j, Dep ops j i → j < i := fun i j hd => by
    obtain ⟨o, ho, hr⟩ := hd
    exact (okR_dst hok1 ho).2.1 j ⟨o, ho, hr⟩
  have go : ∀ w, InSt c n g0 E0 a w → (∃ f β u F, RT c ops n g0 E0 ks (fun _ => false) f (fun t => (a.tmps[t]?).getD undef) β u F a w) := fun w hS => by
    obtain ⟨β, u, F, h1, h2, h3, h4, h5, h6, h7⟩ := hS
    have e1 : ∀ t, wr (fun _ => false) t ops.toList 0 none = none := fun t => wr_id _ _ _ (fun _ _ _ _ => rfl)
    have e2 : ∀ e, al (fun _ => false) e ks 0 (lkE E0 e) = lkE E0 e := fun e => al_id _ _ _ (fun _ _ _ _ => rfl)
    refine ⟨fun _ => undef, β, u, F, (fun _ _ _ h => by cases h), h1, h2, fun t ht => ?_, fun t X hX => ?_, (fun _ _ _ h => by cases h), ?_, h5, fun e X k he hk => h6 e X k (by rw [e2 e] at he; exact he) hk, h7⟩
    · unfold sv
      rw [e1]
      obtain ⟨v, hv⟩ : ∃ v, a.tmps[t]? = some v := ⟨_, Array.getElem?_eq_getElem (by omega)⟩
      simp [hv]
    · obtain ⟨v, k1, k2⟩ := h3 t X hX
      exact ⟨by have := (Array.getElem?_eq_some_iff.1 k1).1; omega, by rw [k1]; exact k2⟩
    · rw [show (fun e => al (fun _ => false) e ks 0 (lkE E0 e)) = lkE E0 from funext e2]
      exact h4
  have step : ∀ d i o a' w', (∃ f β u F, RT c ops n g0 E0 ks d f (fun t => (a.tmps[t]?).getD undef) β u F a' w') → ops[i]? = some o → d i = false → (∀ j, Dep ops j i → d j = true) → wpOp P ops Q i (fun a2 w2 => ∃ f β u F, RT c ops n g0 E0 ks (add d i) f (fun t => (a.tmps[t]?).getD undef) β u F a2 w2) a' w' := fun d i o a' w' ⟨f, β, u, F, hT⟩ ho hi hdep => by
    have hlen : i < ks.length := by rw [hl]; have := (Array.getElem?_eq_some_iff.1 ho).1; simpa using this
    exact t_step (H := ks.reverse) (by simp) hok1 hok2 hok3 hrun' hT ho (List.getElem?_eq_getElem hlen) hi hdep
  have fin : ∀ a' w', (∃ f β u F, RT c ops n g0 E0 ks (allD ops) f (fun t => (a.tmps[t]?).getD undef) β u F a' w') → Q .normal a' w' := fun a' w' ⟨f, β, u, F, hT⟩ => by
    refine hfin a' w' ⟨β, u, F, hT.defers, hT.size, fun t X hX => ?_, ?_, hT.tr, fun e X k he hk => hT.fp e X k ?_ hk, hT.names⟩
    · have e1 : wr (allD ops) t ops.toList 0 none = wr (fun _ => true) t ops.toList 0 none := wr_congr _ _ _ (fun j o hj _ => by
        have := (List.getElem?_eq_some_iff.1 hj).1
        unfold allD; simp at this ⊢; omega)
      rw [hg t, ← e1] at hX
      cases hq : wr (allD ops) t ops.toList 0 none with
      | none =>
        rw [hq] at hX
        obtain ⟨k1, k2⟩ := hT.ini t X hX
        exact ⟨_, hT.slot t k1, by unfold sv; rw [hq]; exact k2⟩
      | some j =>
        rw [hq] at hX
        obtain ⟨q, hq1, hq2⟩ := Option.map_eq_some_iff.1 hX
        rcases wr_spec _ _ _ _ hq with h1 | ⟨_, h2, oj, h3, h4⟩
        · cases h1
        · subst hq2
          refine ⟨_, hT.slot t ((okR_dst hok1 (show ops[j]? = some oj by simpa using h3)).1 t h4), by unfold sv; rw [hq]; exact hT.outs j q hq1 h2⟩
    · have e2 : (fun e => al (allD ops) e ks 0 (lkE E0 e)) = lkE E' := funext fun e => by
        rw [hE e]
        refine al_congr _ _ _ (fun j k hj _ => ?_)
        have := (List.getElem?_eq_some_iff.1 hj).1
        unfold allD; simp at hl ⊢; omega
      rw [← e2]
      exact hT.hold
    · rw [hE e] at he
      rw [← he]
      refine al_congr _ _ _ (fun j k hj _ => ?_)
      have := (List.getElem?_eq_some_iff.1 hj).1
      unfold allD; simp at hl ⊢; omega
  cases draw with
  | true =>
    refine wp_region_any hm (any_of hlt step fin _ _ _ _ (by simp) (by unfold left; refine Nat.le_trans (List.length_filter_le _ _) ?_; simp) ?_)
    have e : (fun k => (Array.replicate ops.size false).getD k false) = fun _ => false := by
      funext k
      by_cases hk : k < ops.size <;> simp [hk]
    rw [e]
    refine go _ ?_
    obtain ⟨β, u, F, h1, h2, h3, h4, h5, h6, h7⟩ := hS
    exact ⟨β, u, F, h1, h2, h3, ⟨fun e X h => X.loc (w := w) (fun k _ => rfl) (h4.hold e X h), h4.dead, h4.apart⟩, ⟨h5.os, h5.tape, h5.output, h5.size, h5.block, h5.old, h5.sub, h5.dead⟩, h6, h7⟩
  | false =>
    refine wp_region ?_
    rw [List.range_eq_range']
    refine seq_of hlt step fin _ 0 a w (by omega) ?_
    have e : (fun k => decide (k < 0)) = fun _ => false := by funext k; simp
    rw [e]
    exact go w hS
end
end Go.Proofs.Ytlmiadjogdfjkaa.V
