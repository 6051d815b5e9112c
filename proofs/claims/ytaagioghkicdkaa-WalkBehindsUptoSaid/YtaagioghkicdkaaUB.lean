/- A logic for regions whose order is open: the law. -/
import Derived.Test.YtaagioghkicdkaaU
set_option linter.unusedVariables false
set_option linter.unusedSimpArgs false
namespace Go.Proofs.Ytaagioghkicdkaa
open Go.RowKit

structure Fr (n : Nat) (a : Act) (G : Nat → Option Value) : Prop where
  defers : a.defers = []
  size : a.tmps.size = n
  slot : ∀ t v, G t = some v → a.tmps[t]? = some v
def add (d : Nat → Bool) (i : Nat) : Nat → Bool := fun k => k == i || d k
theorem add_same (d : Nat → Bool) (i : Nat) : add d i i = true := by simp [add]
theorem add_ne (d : Nat → Bool) {i k : Nat} (h : k ≠ i) : add d i k = d k := by simp [add, h]

theorem idxOf_spec (t : Nat) : ∀ (l : List Oper) (s k : Nat), idxOf t l s = some k → s ≤ k ∧ ∃ o, l[k - s]? = some o ∧ o.dst = some t
  | [], _, _, h => by cases h
  | o :: r, s, k, h => by
    unfold idxOf at h
    split at h
    · rename_i hd
      cases h
      exact ⟨Nat.le_refl _, o, by simp, by simpa using hd⟩
    · obtain ⟨h1, o', h2, h3⟩ := idxOf_spec t r (s + 1) k h
      refine ⟨by omega, o', ?_, h3⟩
      rw [show k - s = (k - (s + 1)) + 1 by omega]
      simpa using h2
theorem stIx_spec (k : Nat) : ∀ (l : List K) (s j : Nat), stIx k l s = some j → s ≤ j ∧ ∃ x, l[j - s]? = some (.sto x) ∧ x.k = k
  | [], _, _, h => by cases h
  | c :: r, s, j, h => by
    have next : stIx k r (s + 1) = some j → s ≤ j ∧ ∃ x, (c :: r)[j - s]? = some (.sto x) ∧ x.k = k := fun h => by
      obtain ⟨h1, x, h2, h3⟩ := stIx_spec k r (s + 1) j h
      refine ⟨by omega, x, ?_, h3⟩
      rw [show j - s = (j - (s + 1)) + 1 by omega]
      simpa using h2
    cases c with
    | sto x =>
      simp only [stIx] at h
      split at h
      · rename_i hx
        cases h
        exact ⟨Nat.le_refl _, x, by simp, by simpa using hx⟩
      · exact next h
    | _ => exact next h
theorem rowIx_spec (k : Nat) : ∀ (l : List K) (s j : Nat), rowIx k l s = some j → s ≤ j ∧ ∃ c, l[j - s]? = some c ∧ ((∃ r, c = .rop k r) ∨ ∃ r, c = .rst k r)
  | [], _, _, h => by cases h
  | c :: r, s, j, h => by
    have next : rowIx k r (s + 1) = some j → s ≤ j ∧ ∃ c', (c :: r)[j - s]? = some c' ∧ ((∃ r, c' = .rop k r) ∨ ∃ r, c' = .rst k r) := fun h => by
      obtain ⟨h1, x, h2, h3⟩ := rowIx_spec k r (s + 1) j h
      refine ⟨by omega, x, ?_, h3⟩
      rw [show j - s = (j - (s + 1)) + 1 by omega]
      simpa using h2
    cases c with
    | rop m x =>
      simp only [rowIx] at h
      split at h
      · rename_i hx
        have hx : m = k := by simpa using hx
        subst hx
        cases h
        exact ⟨Nat.le_refl _, _, by simp, .inl ⟨x, rfl⟩⟩
      · exact next h
    | rst m x =>
      simp only [rowIx] at h
      split at h
      · rename_i hx
        have hx : m = k := by simpa using hx
        subst hx
        cases h
        exact ⟨Nat.le_refl _, _, by simp, .inr ⟨x, rfl⟩⟩
      · exact next h
    | _ => exact next h

/-- What is known for good has grown, above block N alone. -/
def Gr (N : Nat) (u u' : World) : Prop := Sub u u' ∧ ∀ p, p < N → Dead u p → Dead u' p
theorem Gr.refl (N : Nat) (u : World) : Gr N u u := ⟨Sub.refl _, fun _ _ h => h⟩
theorem Gr.trans {N : Nat} {a b c : World} (h : Gr N a b) (k : Gr N b c) : Gr N a c := ⟨h.1.trans k.1, fun p hp hd => k.2 p hp (h.2 p hp hd)⟩
theorem Adv.gr {N : Nat} {w u w' u' : World} (h : Adv w u w' u') (hN : N ≤ w.heap.size) : Gr N u u' := ⟨h.2.1, fun p hp hd => h.2.2.2 p (Nat.lt_of_lt_of_le hp hN) hd⟩

namespace Reg
variable {R : Reg} {P : Program} {Q : Exit → Act → World → Prop} {w0 u0 : World}

def Closed (R : Reg) (d : Nat → Bool) : Prop := ∀ i j, R.dep i j = true → d j = true → d i = true
/-- The state inside a region: those of d have come up. -/
def T (R : Reg) (w0 u0 : World) (d : Nat → Bool) (a : Act) (w : World) : Prop :=
  R.Closed d ∧ ∃ f u, Fr R.n a (R.gd d f) ∧ Gr w0.heap.size u0 u ∧ StF w0 (R.bxf d f) (R.rwf d f) u w ∧ (∀ i S, R.ks[i]? = some (.opq S) → d i = true → S u (f i)) ∧
    ∀ i ty zs, R.ks[i]? = some (.new ty zs) → d i = true → ∃ p, f i = .pointer (some ⟨p, 0, none⟩)

theorem okOps_at : ∀ (l : List Oper) (s i : Nat) (o : Oper), R.okOps s l = true → l[i]? = some o → R.okOp (s + i) o = true
  | [], _, _, _, _, h => by simp at h
  | x :: r, s, i, o, h, hi => by
    simp only [okOps, Bool.and_eq_true] at h
    cases i with
    | zero => simp at hi; subst hi; exact h.1
    | succ i => have := okOps_at r (s + 1) i o h.2 (by simpa using hi); rwa [show s + 1 + i = s + (i + 1) by omega] at this
theorem ok_op (h : R.ok = true) {i : Nat} {o : Oper} (hi : R.ops[i]? = some o) : R.okOp i o = true := by
  simp only [ok, Bool.and_eq_true] at h
  have := okOps_at R.ops.toList 0 i o h.1.1 (by simpa using hi)
  simpa using this
theorem obs_at : ∀ (l : List Oper) (ks : List K) (s i : Nat) (o : Oper), R.Obs P w0 u0 s l ks → l[i]? = some o → ∃ k, ks[i]? = some k ∧ (match R.want o (s + i) with | some false => True | _ => R.Ob P w0 u0 (s + i) o k)
  | [], _, _, _, _, _, h => by simp at h
  | x :: r, [], _, _, _, h, _ => by simp [Obs] at h
  | x :: r, k :: ks, s, i, o, h, hi => by
    simp only [Obs] at h
    cases i with
    | zero => simp at hi; subst hi; exact ⟨k, by simp, h.1⟩
    | succ i =>
      obtain ⟨k', h1, h2⟩ := obs_at r ks (s + 1) i o h.2 (by simpa using hi)
      rw [show s + 1 + i = s + (i + 1) by omega] at h2
      exact ⟨k', by simpa using h1, h2⟩

theorem dep_lt (h : R.ok = true) {i j : Nat} (hd : R.dep i j = true) : i < j := by
  unfold dep at hd
  split at hd
  · rename_i o ho
    have h1 := ok_op h ho
    simp only [okOp, Bool.and_eq_true, List.all_eq_true] at h1
    obtain ⟨e, he, h2⟩ := List.any_eq_true.1 hd
    simp only [Bool.and_eq_true, beq_iff_eq] at h2
    have h3 := h1.1.1.2 e he
    simp only [Bool.or_eq_true, Bool.not_eq_true', decide_eq_true_eq, h2.1] at h3
    rcases h3 with h3 | h3
    · cases h3
    · omega
  · cases hd
theorem dep_of {o : Oper} {j : Nat} (ho : R.ops[j]? = some o) {e : Edge} (he : e ∈ o.after) (hb : Region.binds .any e = true) : R.dep e.on j = true := by
  unfold dep
  rw [ho]
  exact List.any_eq_true.2 ⟨e, by simpa using he, by simp [hb]⟩
theorem okK_at (h : R.ok = true) {i : Nat} {o : Oper} (ho : R.ops[i]? = some o) : R.okK i o = true := by
  have h1 := ok_op h ho
  simp only [okOp, Bool.and_eq_true] at h1
  exact h1.2
theorem ops_of (h : R.ok = true) {i : Nat} {k : K} (hk : R.ks[i]? = some k) : ∃ o, R.ops[i]? = some o := by
  simp only [ok, Bool.and_eq_true, beq_iff_eq] at h
  have : i < R.ks.length := (List.getElem?_eq_some_iff.1 hk).1
  exact ⟨R.ops[i], Array.getElem?_eq_getElem (by omega)⟩
theorem cpy_dep (h : R.ok = true) {k j : Nat} (hk : R.ks[k]? = some (.cpy j)) : R.dep j k = true ∧ ∃ c, R.ks[j]? = some c ∧ (∀ m, c ≠ .cpy m) ∧ (∀ x, c ≠ .sto x) ∧ ∀ m r, c ≠ .rst m r := by
  obtain ⟨o, ho⟩ := ops_of h hk
  have h1 := okK_at h ho
  unfold okK at h1
  rw [hk] at h1
  simp only [Bool.and_eq_true] at h1
  refine ⟨h1.1.2, ?_⟩
  have h2 := h1.2
  split at h2 <;> first | (rename_i hq; exact ⟨_, hq, by simp, by simp, by simp⟩) | cases h2
theorem val_upd (h : R.ok = true) {d : Nat → Bool} (hC : R.Closed d) (f : Nat → Value) {i k : Nat} (v : Value) (hi : d i = false) (hd : d k = true) : R.val (upd f i v) k = R.val f k := by
  have hki : k ≠ i := fun e => by rw [e, hi] at hd; cases hd
  unfold val
  split
  · rfl
  · rfl
  · rfl
  · rename_i j hk
    have hj := hC _ _ (cpy_dep h hk).1 hd
    have hji : j ≠ i := fun e => by rw [e, hi] at hj; cases hj
    rw [upd_ne f v hji]
  · rw [upd_ne f v hki]
/-- What an operation that has come up leaves, once more. -/
theorem val_self {f : Nat → Value} {i : Nat} {v : Value} {c : K} (hk : R.ks[i]? = some c) (h1 : ∀ x, c ≠ .con x) (h2 : ∀ x, c ≠ .sto x) (h3 : ∀ m r, c ≠ .rst m r) (h4 : ∀ j, c ≠ .cpy j) : R.val (upd f i v) i = v := by
  unfold val
  rw [hk]
  cases c with
  | con x => exact absurd rfl (h1 x)
  | sto x => exact absurd rfl (h2 x)
  | rst m r => exact absurd rfl (h3 m r)
  | cpy j => exact absurd rfl (h4 j)
  | _ => exact upd_same _ _ _
theorem fr_put (h : R.ok = true) {a : Act} {d : Nat → Bool} {f : Nat → Value} {i : Nat} {o : Oper} {v v' : Value} (hC : R.Closed d) (hi : d i = false) (hF : Fr R.n a (R.gd d f)) (ho : R.ops[i]? = some o) (hv : R.val (upd f i v) i = v' ∨ o.dst = none) :
    Fr R.n (a.put o.dst v') (R.gd (add d i) (upd f i v)) := by
  have h1 := ok_op h ho
  simp only [okOp, Bool.and_eq_true] at h1
  have hix : ∀ t, o.dst = some t → idxOf t R.ops.toList 0 = some i ∧ t < R.n := fun t ht => by
    have := h1.1.2
    rw [ht] at this
    simpa using this
  have hother : ∀ t, o.dst ≠ some t → (a.put o.dst v').tmps[t]? = a.tmps[t]? := fun t ht => by
    cases hd : o.dst with
    | none => rfl
    | some q =>
      have hq : q ≠ t := fun e => ht (by rw [hd, e])
      simp [Act.put, hq]
  refine ⟨?_, ?_, fun t w hw => ?_⟩
  · cases hd : o.dst <;> exact hF.defers
  · cases hd : o.dst with
    | none => exact hF.size
    | some q => simpa [Act.put] using hF.size
  · unfold gd at hw
    split at hw
    · rename_i k hk
      by_cases hki : k = i
      · subst hki
        rw [add_same, if_pos rfl] at hw
        obtain ⟨_, o', ho', hd'⟩ := idxOf_spec t _ _ _ hk
        have : o' = o := by
          have e1 : R.ops.toList[k - 0]? = R.ops[k]? := by simp
          rw [e1, ho] at ho'
          exact (Option.some.inj ho').symm
        subst this
        have hv' : R.val (upd f k v) k = v' := hv.resolve_right (by rw [hd']; simp)
        have hlt := (hix t hd').2
        rw [hd']
        simp only [Option.some.injEq] at hw
        rw [← hw, hv']
        simp [Act.put, hF.size, hlt]
      · rw [add_ne d hki] at hw
        have hw' : (if d k = true then some (R.val f k) else lk R.g t) = some w := by
          split at hw
          · rename_i hdk; rw [if_pos hdk, ← val_upd h hC f v hi hdk]; exact hw
          · rename_i hdk; rw [if_neg hdk]; exact hw
        rw [hother t (fun e => hki (by have := (hix t e).1; rw [hk] at this; exact Option.some.inj this))]
        exact hF.slot t w (by unfold gd; rw [hk]; exact hw')
    · rename_i hk
      rw [hother t (fun e => by have := (hix t e).1; rw [hk] at this; cases this)]
      exact hF.slot t w (by unfold gd; rw [hk]; exact hw)

theorem eval_ev (h : R.ok = true) {a : Act} {d : Nat → Bool} {f : Nat → Value} {i : Nat} {o : Oper} (hF : Fr R.n a (R.gd d f)) (ho : R.ops[i]? = some o) (hC : R.Closed d) (hi : d i = false) (hdep : ∀ k, R.dep k i = true → d k = true) :
    ∀ x ∈ o.op.operands, a.eval x = R.ev i f x := by
  intro x hx
  have h1 := ok_op h ho
  simp only [okOp, Bool.and_eq_true, List.all_eq_true] at h1
  have hop := h1.1.1.1 x (by simpa using hx)
  cases x with
  | tmp t =>
    have slot : ∀ v, R.gd d f t = some v → a.eval (.tmp t) = v := fun v hv => by
      have := hF.slot t v hv
      simp [Act.eval, this]
    simp only [okOperand] at hop
    simp only [ev, env]
    split at hop
    · rename_i k hk
      by_cases hd : R.dep k i = true
      · rw [if_pos hd]
        exact slot _ (by unfold gd; rw [hk]; simp [hdep k hd])
      · rw [if_neg hd]
        simp only [hd, Bool.false_or, Bool.and_eq_true, Bool.or_eq_true, beq_iff_eq] at hop
        obtain ⟨h2, h3⟩ := hop
        have hk0 : d k = false := by
          rcases h2 with h2 | h2
          · cases hq : d k with
            | false => rfl
            | true => have := hC _ _ h2 hq; rw [hi] at this; cases this
          · rw [h2]; exact hi
        obtain ⟨v, hv⟩ := Option.isSome_iff_exists.1 h3
        rw [hv]
        exact slot _ (by unfold gd; rw [hk]; simp [hk0, hv])
    · rename_i hk
      obtain ⟨v, hv⟩ := Option.isSome_iff_exists.1 hop
      simp only [hv]
      exact slot _ (by unfold gd; rw [hk]; exact hv)
  | const v => rfl
  | global g => rfl
  | func f => rfl

theorem wanted_want {a : Act} {d : Nat → Bool} {f : Nat → Value} {i : Nat} {o : Oper} (h : R.ok = true) (hF : Fr R.n a (R.gd d f)) (ho : R.ops[i]? = some o) (hdep : ∀ k, R.dep k i = true → d k = true) {b : Bool} (hw : R.want o i = some b) :
    Region.wanted o (yielded R.ops a.tmps) = b := by
  unfold want at hw
  unfold Region.wanted
  split at hw
  · rename_i hg
    rw [hg]
    exact (Option.some.inj hw)
  · rename_i g c hg
    rw [hg]
    simp only
    split at hw
    · rename_i cc hk
      split at hw
      · rename_i hc
        simp only [Bool.and_eq_true] at hc
        obtain ⟨t, ht⟩ := Option.isSome_iff_exists.1 hc.2
        obtain ⟨og, hog, htg⟩ := Option.bind_eq_some_iff.1 ht
        have h1 := ok_op h hog
        simp only [okOp, Bool.and_eq_true] at h1
        have h2 := h1.1.2
        rw [htg] at h2
        simp only [Bool.and_eq_true, beq_iff_eq] at h2
        have hs := hF.slot t (.bool cc) (by
          unfold gd
          rw [h2.1]
          simp only [hdep g hc.1, if_true]
          unfold val
          rw [hk])
        have : yielded R.ops a.tmps g = some cc := by
          unfold yielded
          rw [ht]
          simp [hs]
        rw [this]
        simpa using hw
      · cases hw
    · cases hw

theorem sto_op (h : R.ok = true) {j : Nat} {x : SO} (hk : R.ks[j]? = some (.sto x)) (hj : ∃ o, R.ops[j]? = some o) : stIx x.k R.ks 0 = some j ∧ (∀ q, x.s = .op q → R.dep q j = true) ∧
    (R.bx.length ≤ x.k → R.dep (x.k - R.bx.length) j = true ∧ ∃ ty zs, R.ks[x.k - R.bx.length]? = some (.new ty zs)) := by
  obtain ⟨o, ho⟩ := hj
  have h1 := okK_at h ho
  unfold okK at h1
  rw [hk] at h1
  simp only [Bool.and_eq_true, beq_iff_eq] at h1
  obtain ⟨⟨⟨⟨_, _⟩, h2⟩, h3⟩, h4⟩ := h1
  refine ⟨h2, fun q hq => by rw [hq] at h3; exact h3, fun hx => ?_⟩
  rw [if_neg (by omega)] at h4
  simp only [Bool.and_eq_true] at h4
  refine ⟨h4.1, ?_⟩
  have h5 := h4.2
  split at h5
  · rename_i ty zs hq; exact ⟨ty, zs, hq⟩
  · cases h5

theorem ob_of (hP : R.Obs P w0 u0 0 R.ops.toList R.ks) {i : Nat} {o : Oper} {k : K} (ho : R.ops[i]? = some o) (hk : R.ks[i]? = some k) (hw : R.want o i ≠ some false) : R.Ob P w0 u0 i o k := by
  obtain ⟨k', h1, h2⟩ := obs_at _ _ _ _ o hP (by simpa using ho)
  rw [hk] at h1
  cases h1
  rw [Nat.zero_add] at h2
  first
    | exact h2
    | (split at h2
       · rename_i hf; exact absurd hf hw
       · exact h2)
theorem opq_mono (h : R.ok = true) (hP : R.Obs P w0 u0 0 R.ops.toList R.ks) {i : Nat} {S : World → Value → Prop} (hk : R.ks[i]? = some (.opq S)) : ∀ u u' v, Sub u u' → S u v → S u' v := by
  obtain ⟨o, ho⟩ := ops_of h hk
  have h1 := okK_at h ho
  unfold okK at h1
  rw [hk] at h1
  have h2 : R.want o i = some true := by simpa using h1
  exact (ob_of hP ho hk (by rw [h2]; simp)).1

section
variable {d : Nat → Bool} {u w w' u' : World} {a : Act} {i : Nat} {o : Oper}
/-- Only what has come up is looked at: the boxes. -/
theorem app_same (hC : R.Closed d) (h : R.ok = true) (hi : d i = false) (hs : ∀ x, R.ks[i]? ≠ some (.sto x)) (f : Nat → Value) (v : Value) (k : Nat) (cs : List Value) :
    R.app (add d i) (upd f i v) k cs = R.app d f k cs := by
  unfold app
  split
  · rfl
  · rename_i j hj
    split
    · rename_i x hx
      have hji : j ≠ i := fun e => hs x (by rw [← e]; exact hx)
      rw [add_ne d hji]
      split
      · rename_i hd
        obtain ⟨_, hq, _⟩ := sto_op h hx (ops_of h hx)
        have : R.srcv (upd f i v) x.s = R.srcv f x.s := by
          unfold srcv
          split
          · rename_i q hqs
            have hdq := hC q j (hq q hqs) hd
            exact val_upd h hC f v hi hdq
          · rfl
        rw [this]
      · rfl
    · rfl
theorem bxf_same (hC : R.Closed d) (h : R.ok = true) (hi : d i = false) (hs : ∀ x, R.ks[i]? ≠ some (.sto x)) (f : Nat → Value) (v : Value) (k : Nat) (hk : k ≠ R.bx.length + i ∨ ∀ ty zs, R.ks[i]? ≠ some (.new ty zs)) :
    R.bxf (add d i) (upd f i v) k = R.bxf d f k := by
  unfold bxf
  split
  · congr 1
    funext b
    rw [app_same hC h hi hs]
  · rename_i hlt
    split
    · rename_i ty zs hq
      have hne : k - R.bx.length ≠ i := fun e => by
        rcases hk with hk | hk
        · omega
        · exact hk ty zs (by rw [← e]; exact hq)
      rw [add_ne d hne, upd_ne f v hne, app_same hC h hi hs]
    · rfl
theorem rwb_same (i : Nat) (f : Nat → Value) (v : Value) (k : Nat) (h3 : ∀ r, R.ks[i]? ≠ some (.mk r)) : R.rwb (add d i) (upd f i v) k = R.rwb d f k := by
  unfold rwb
  split
  · rfl
  · split
    · rename_i s hq
      have hne : k - R.rw.length ≠ i := fun e => h3 s (by rw [← e]; exact hq)
      rw [add_ne d hne, upd_ne f v hne]
    · rfl
theorem rwo_same (i : Nat) (f : Nat → Value) (v : Value) (k : Nat) (r : Row) (h : rowIx k R.ks 0 ≠ some i) : R.rwo (add d i) (upd f i v) k r = R.rwo d f k r := by
  unfold rwo
  split
  · rfl
  · rename_i j hj
    have hji : j ≠ i := fun e => h (by rw [hj, e])
    rw [add_ne d hji, upd_ne f v hji]
theorem rix_ne {i : Nat} (h1 : ∀ m r, R.ks[i]? ≠ some (.rop m r)) (h2 : ∀ m r, R.ks[i]? ≠ some (.rst m r)) (k : Nat) : rowIx k R.ks 0 ≠ some i := fun e => by
  obtain ⟨_, c, hc, hc'⟩ := rowIx_spec _ _ _ _ e
  rw [Nat.sub_zero] at hc
  rcases hc' with ⟨r, rfl⟩ | ⟨r, rfl⟩
  · exact h1 _ _ hc
  · exact h2 _ _ hc
theorem rwf_same (i : Nat) (f : Nat → Value) (v : Value) (k : Nat) (h1 : ∀ m r, R.ks[i]? ≠ some (.rop m r)) (h2 : ∀ m r, R.ks[i]? ≠ some (.rst m r)) (h3 : ∀ r, R.ks[i]? ≠ some (.mk r)) : R.rwf (add d i) (upd f i v) k = R.rwf d f k := by
  unfold rwf
  rw [rwb_same i f v k h3]
  congr 1
  funext r
  exact rwo_same i f v k r (rix_ne h1 h2 k)
/-- The other rows, where row k is written to by operation i. -/
theorem rwf_other (i k : Nat) (f : Nat → Value) (v : Value) (hix : rowIx k R.ks 0 = some i) (h3 : ∀ r, R.ks[i]? ≠ some (.mk r)) (j : Nat) (hj : j ≠ k) : R.rwf (add d i) (upd f i v) j = R.rwf d f j := by
  unfold rwf
  rw [rwb_same i f v j h3]
  congr 1
  funext r
  refine rwo_same i f v j r (fun e => ?_)
  obtain ⟨_, c, hc, hc'⟩ := rowIx_spec _ _ _ _ hix
  obtain ⟨_, c2, hc2, hc2'⟩ := rowIx_spec _ _ _ _ e
  rw [hc] at hc2
  cases hc2
  rcases hc' with ⟨r, rfl⟩ | ⟨r, rfl⟩ <;> rcases hc2' with ⟨r', e⟩ | ⟨r', e⟩ <;> cases e <;> exact hj rfl
/-- Of a row that was made here: who writes to it comes behind. -/
theorem row_dep (h : R.ok = true) {k j : Nat} (hj : rowIx k R.ks 0 = some j) : k < R.rw.length ∨ R.dep (k - R.rw.length) j = true ∧ ∃ s, R.ks[k - R.rw.length]? = some (.mk s) := by
  obtain ⟨_, c, hc, hc'⟩ := rowIx_spec _ _ _ _ hj
  rw [Nat.sub_zero] at hc
  obtain ⟨o, ho⟩ := ops_of h hc
  have hk := okK_at h ho
  unfold okK at hk
  rw [hc] at hk
  have key : (decide (k < R.rw.length) || (R.dep (k - R.rw.length) j && (match R.ks[k - R.rw.length]? with | some (.mk _) => true | _ => false))) = true := by
    rcases hc' with ⟨r, rfl⟩ | ⟨r, rfl⟩ <;> (simp only [Bool.and_eq_true] at hk; exact hk.2)
  simp only [Bool.or_eq_true, decide_eq_true_eq, Bool.and_eq_true] at key
  rcases key with hk | hk
  · exact .inl hk
  · refine .inr ⟨hk.1, ?_⟩
    have h2 := hk.2
    split at h2
    · rename_i s hs; exact ⟨s, hs⟩
    · cases h2
theorem closed_add (hC : R.Closed d) (hdep : ∀ k, R.dep k i = true → d k = true) : R.Closed (add d i) := by
  intro p j hp hj
  unfold add at *
  by_cases hji : j = i
  · subst hji; simp [hdep p hp]
  · simp [hji] at hj
    simp [hC p j hp hj]
theorem see_row {f : Nat → Value} (hC : R.Closed d) (hi : d i = false) (hdep : ∀ k, R.dep k i = true → d k = true) {k : Nat} {r : Row} (hr : R.visr i f k = some r) : R.rwf d f k = some r := by
  have hb : ∀ b, (if k < R.rw.length then R.rw[k]? else match R.ks[k - R.rw.length]? with
      | some (.mk s) => if R.dep (k - R.rw.length) i then some (s (f (k - R.rw.length))) else none
      | _ => none) = some b → R.rwb d f k = some b := fun b hb => by
    unfold rwb
    split at hb
    · rename_i hk; rw [if_pos hk]; exact hb
    · rename_i hk
      rw [if_neg hk]
      split at hb
      · rename_i s hs
        split at hb
        · rename_i hd; simp only [hs, hdep _ hd, if_true]; exact hb
        · cases hb
      · cases hb
  unfold visr at hr
  unfold rwf
  simp only at hr
  split at hr
  · rename_i hx
    rw [hb r hr, Option.map_some]
    unfold rwo
    rw [hx]
  · rename_i j hj
    split at hr
    · rename_i h1
      rw [hb r hr, Option.map_some]
      simp only [Bool.or_eq_true, beq_iff_eq] at h1
      have : d j = false := by
        rcases h1 with h1 | h1
        · cases hq : d j with
          | false => rfl
          | true => have := hC _ _ h1 hq; rw [hi] at this; cases this
        · rw [← h1]; exact hi
      unfold rwo
      simp [hj, this]
    · cases hr
theorem see (h : R.ok = true) {f : Nat → Value} (ho : Sub u0 u) (hC : R.Closed d) (hi : d i = false) (hdep : ∀ k, R.dep k i = true → d k = true) (hS : StF w0 (R.bxf d f) (R.rwf d f) u w) (hq : ∀ i S, R.ks[i]? = some (.opq S) → d i = true → S u (f i))
    (hn : ∀ i ty zs, R.ks[i]? = some (.new ty zs) → d i = true → ∃ p, f i = .pointer (some ⟨p, 0, none⟩)) : R.See w0 u0 i f u w := by
  refine ⟨ho, hS.sub, hS.below.size, fun k r hr => (hS.row k r (see_row hC hi hdep hr)).1, fun k b hb => (hS.box k b ?_).2.2, fun k S hk hS' => hq k S hS' (hdep k hk), fun k ty zs hk hz => hn k ty zs hz (hdep k hk)⟩
  have hcs : ∀ l l', R.visc i f k l = some l' → R.app d f k l = l' := fun l l' hl => by
    unfold visc at hl
    unfold app
    split at hl
    · rename_i hj; exact Option.some.inj hl
    · rename_i j hj
      split at hl
      · rename_i x hx
        split at hl
        · rename_i h1
          simp only [Bool.or_eq_true, beq_iff_eq] at h1
          have : d j = false := by
            rcases h1 with h1 | h1
            · cases hq : d j with
              | false => rfl
              | true => have := hC _ _ h1 hq; rw [hi] at this; cases this
            · rw [← h1]; exact hi
          simp [hx, this]
          exact Option.some.inj hl
        · split at hl
          · rename_i h1
            simp [hx, hdep _ h1]
            exact Option.some.inj hl
          · cases hl
      · cases hl
  unfold visb at hb
  unfold bxf
  split at hb
  · rename_i hlt
    rw [if_pos hlt]
    split at hb
    · rename_i b' hb'
      obtain ⟨l, hl, he⟩ := Option.map_eq_some_iff.1 hb
      rw [hb', Option.map_some, hcs _ _ hl, he]
    · cases hb
  · rename_i hlt
    rw [if_neg hlt]
    split at hb
    · rename_i ty zs hz
      split at hb
      · rename_i hd
        obtain ⟨l, hl, he⟩ := Option.map_eq_some_iff.1 hb
        simp only [hz, hdep _ hd, if_true, hcs _ _ hl, he]
      · cases hb
    · cases hb

/-- A value has come up. -/
theorem t_val (h : R.ok = true) (hP : R.Obs P w0 u0 0 R.ops.toList R.ks) (ho : R.ops[i]? = some o) {f : Nat → Value} (hi : d i = false) (hdep : ∀ k, R.dep k i = true → d k = true) (hC : R.Closed d) (hF : Fr R.n a (R.gd d f)) (hu : Gr w0.heap.size u0 u) (hS : StF w0 (R.bxf d f) (R.rwf d f) u w)
    (hq : ∀ i S, R.ks[i]? = some (.opq S) → d i = true → S u (f i)) (hn : ∀ i ty zs, R.ks[i]? = some (.new ty zs) → d i = true → ∃ p, f i = .pointer (some ⟨p, 0, none⟩))
    (ha : Adv w u w' u') (v : Value) (hk : R.ks[i]? = some (.con v) ∨ (∃ S, R.ks[i]? = some (.opq S) ∧ S u' v) ∨ ∃ j, R.ks[i]? = some (.cpy j) ∧ v = R.val f j) : R.T w0 u0 (add d i) (a.put o.dst v) w' := by
  have hs : ∀ x, R.ks[i]? ≠ some (.sto x) := fun x e => by rcases hk with hk | ⟨S, hk, _⟩ | ⟨j, hk, _⟩ <;> rw [hk] at e <;> cases e
  have hr1 : ∀ m r, R.ks[i]? ≠ some (.rop m r) := fun m r e => by rcases hk with hk | ⟨S, hk, _⟩ | ⟨j, hk, _⟩ <;> rw [hk] at e <;> cases e
  have hr2 : ∀ m r, R.ks[i]? ≠ some (.rst m r) := fun m r e => by rcases hk with hk | ⟨S, hk, _⟩ | ⟨j, hk, _⟩ <;> rw [hk] at e <;> cases e
  have hr3 : ∀ r, R.ks[i]? ≠ some (.mk r) := fun r e => by rcases hk with hk | ⟨S, hk, _⟩ | ⟨j, hk, _⟩ <;> rw [hk] at e <;> cases e
  have hnew : ∀ ty zs, R.ks[i]? ≠ some (.new ty zs) := fun ty zs e => by rcases hk with hk | ⟨S, hk, _⟩ | ⟨j, hk, _⟩ <;> rw [hk] at e <;> cases e
  refine ⟨closed_add hC hdep, upd f i v, u', fr_put h hC hi hF ho (.inl ?_), hu.trans (ha.gr hS.below.size), (hS.congr (fun k => bxf_same hC h hi hs f v k (.inr hnew)) (fun k => rwf_same i f v k hr1 hr2 hr3)).adv ha, fun k S hks hd => ?_, fun k ty zs hks hd => ?_⟩
  · rcases hk with hk | ⟨S, hk, _⟩ | ⟨j, hk, e⟩
    · simp [val, hk]
    · simp [val, hk, upd_same]
    · obtain ⟨hd, c, hc, c1, c2, c3⟩ := cpy_dep h hk
      have hj : d j = true := hdep j hd
      have hji : j ≠ i := fun e => by rw [e, hi] at hj; cases hj
      rw [e]
      unfold val
      rw [hk, hc]
      cases c with
      | cpy m => exact absurd rfl (c1 m)
      | sto x => exact absurd rfl (c2 x)
      | rst m r => exact absurd rfl (c3 m r)
      | con x => simp [hc]
      | _ => simp only [hc]; exact upd_ne f _ hji
  · by_cases hki : k = i
    · subst hki
      rw [upd_same]
      rcases hk with hk | ⟨S', hk, hS'⟩ | ⟨j, hk, _⟩
      · rw [hk] at hks; cases hks
      · rw [hk] at hks; cases hks; exact hS'
      · rw [hk] at hks; cases hks
    · rw [upd_ne f v hki]
      rw [add_ne d hki] at hd
      exact opq_mono h hP hks _ _ _ ha.2.1 (hq k S hks hd)
  · by_cases hki : k = i
    · subst hki; exact absurd hks (hnew ty zs)
    · rw [upd_ne f v hki]
      rw [add_ne d hki] at hd
      exact hn k ty zs hks hd

theorem t_step (h : R.ok = true) (hP : R.Obs P w0 u0 0 R.ops.toList R.ks) (ho : R.ops[i]? = some o) (hT : R.T w0 u0 d a w) (hi : d i = false) (hdep : ∀ k, R.dep k i = true → d k = true) :
    wpOp P R.ops Q i (fun a' w' => R.T w0 u0 (add d i) a' w') a w := by
  obtain ⟨hC, f, u, hF, hu, hS, hq, hn⟩ := hT
  have hsee := see h hu.1 hC hi hdep hS hq hn
  have hkk := okK_at h ho
  have hsel : ∀ cs b, o.op ≠ .select cs b := fun cs b => by
    simp only [ok, Bool.and_eq_true] at h
    exact Region.noSelect_spec h.1.2 i o cs b ho
  have hexec : execOp a.eval o = execOp (R.ev i f) o := execOp_congr o hsel (eval_ev h hF ho hC hi hdep)
  unfold wpOp
  simp only [ho]
  cases hk : R.ks[i]? with
  | none => unfold okK at hkk; rw [hk] at hkk; cases hkk
  | some k =>
    have hwant : R.want o i = some true ∨ ∃ c, k = .con c ∧ R.want o i = some false ∧ c = undef := by
      unfold okK at hkk
      rw [hk] at hkk
      cases k with
      | con c =>
        simp only at hkk
        split at hkk
        · rename_i hw; exact .inl hw
        · rename_i hw; exact .inr ⟨c, rfl, hw, isUndef_eq hkk⟩
        · cases hkk
      | opq S => exact .inl (by simpa using hkk)
      | new ty zs => simp only [Bool.and_eq_true, beq_iff_eq] at hkk; exact .inl hkk.1
      | sto x => simp only [Bool.and_eq_true, beq_iff_eq] at hkk; exact .inl hkk.1.1.1.1
      | rop m r => simp only [Bool.and_eq_true, beq_iff_eq] at hkk; exact .inl hkk.1.1
      | rst m r => simp only [Bool.and_eq_true, beq_iff_eq] at hkk; exact .inl hkk.1.1.1
      | mk r => exact .inl (by simpa using hkk)
      | cpy j => simp only [Bool.and_eq_true, beq_iff_eq] at hkk; exact .inl hkk.1.1
    rcases hwant with hw | ⟨c, rfl, hw, rfl⟩
    · rw [wanted_want h hF ho hdep hw, if_pos rfl]
      refine .inl ?_
      have hob := ob_of hP ho hk (by rw [hw]; simp)
      unfold Oper.wp
      rw [hexec]
      cases k with
      | con c =>
        rcases hob f u w hsee with hr | ⟨fid, args, hr, hfn⟩
        · rw [hr]
          exact t_val h hP ho hi hdep hC hF hu hS hq hn (Adv.refl hS.sub) c (.inl hk)
        · rw [hr]
          refine (hfn w hS.sub).mono fun e w' he => ?_
          obtain ⟨v, u', rfl, ha, rfl⟩ := he
          exact t_val h hP ho hi hdep hC hF hu hS hq hn ha _ (.inl hk)
      | opq S =>
        rcases hob.2 f u w hsee with ⟨v, w', u', hr, ha, hs⟩ | ⟨fid, args, hr, hfn⟩
        · rw [hr]
          exact t_val h hP ho hi hdep hC hF hu hS hq hn ha v (.inr (.inl ⟨S, hk, hs⟩))
        · rw [hr]
          refine (hfn w hS.sub).mono fun e w' he => ?_
          obtain ⟨v, u', rfl, ha, hs⟩ := he
          exact t_val h hP ho hi hdep hC hF hu hS hq hn ha _ (.inr (.inl ⟨S, hk, hs⟩))
      | cpy j =>
        rw [hob f u w hsee]
        exact t_val h hP ho hi hdep hC hF hu hS hq hn (Adv.refl hS.sub) _ (.inr (.inr ⟨j, hk, rfl⟩))
      | new ty zs =>
        rw [hob f u w hsee]
        have hs : ∀ x, R.ks[i]? ≠ some (.sto x) := fun x e => by rw [hk] at e; cases e
        have hne : ∀ j, j ≠ R.bx.length + i → R.bxf (add d i) (upd f i (.pointer (some ⟨w.heap.size, 0, none⟩))) j = R.bxf d f j := fun j hj => bxf_same hC h hi hs f _ j (.inl hj)
        refine ⟨closed_add hC hdep, upd f i (.pointer (some ⟨w.heap.size, 0, none⟩)), u, fr_put h hC hi hF ho (.inl (by simp [val, hk, upd_same])), hu, (hS.congr (fun _ => rfl) (fun k => rwf_same i f _ k (fun m r e => by rw [hk] at e; cases e) (fun m r e => by rw [hk] at e; cases e) (fun r e => by rw [hk] at e; cases e))).alloc (R.bx.length + i) ty zs ?_ hne, fun k S hks hd => ?_, fun k ty' zs' hks hd => ?_⟩
        · unfold bxf
          rw [if_neg (by omega), Nat.add_sub_cancel_left, hk]
          simp only [add_same, if_true, upd_same, blkOf]
          congr 2
          unfold app
          split
          · rfl
          · rename_i j hj
            split
            · rename_i x hx
              have : add d i j = false := by
                unfold okK at hkk
                rw [hk] at hkk
                simp only [Bool.and_eq_true, hj] at hkk
                have hji : j ≠ i := fun e => hs x (by rw [← e]; exact hx)
                rw [add_ne d hji]
                cases hq : d j with
                | false => rfl
                | true => have := hC _ _ hkk.2 hq; rw [hi] at this; cases this
              rw [this]
              rfl
            · rfl
        · have hki : k ≠ i := fun e => by rw [e, hk] at hks; cases hks
          rw [upd_ne f _ hki]
          rw [add_ne d hki] at hd
          exact hq k S hks hd
        · by_cases hki : k = i
          · subst hki; exact ⟨_, upd_same _ _ _⟩
          · rw [upd_ne f _ hki]
            rw [add_ne d hki] at hd
            exact hn k ty' zs' hks hd
      | sto x =>
        obtain ⟨hst, hsrc, hnw⟩ := sto_op h hk ⟨o, ho⟩
        have hdst : o.dst = none := by
          unfold okK at hkk
          rw [hk] at hkk
          simp only [Bool.and_eq_true] at hkk
          simpa using hkk.1.1.1.2
        have hsv : R.srcv (upd f i undef) x.s = R.srcv f x.s := by
          unfold srcv
          split
          · rename_i q hqs
            exact val_upd h hC f _ hi (hdep q (hsrc q hqs))
          · rfl
        have hvc : ∀ l, R.visc i f x.k l = some l := fun l => by
          unfold visc
          rw [hst]
          simp [hk]
        have happ : ∀ l, R.app d f x.k l = l ∧ R.app (add d i) (upd f i undef) x.k l = patch l x.off (R.srcv f x.s).cells.toList := fun l => by
          unfold app
          rw [hst]
          simp [hk, hi, add_same, hsv]
        have hoth : ∀ j, j ≠ x.k → R.bxf (add d i) (upd f i undef) j = R.bxf d f j := fun j hj => by
          have haj : ∀ l, R.app (add d i) (upd f i undef) j l = R.app d f j l := fun l => by
            unfold app
            split
            · rfl
            · rename_i p hp
              split
              · rename_i y hy
                have hpi : p ≠ i := fun e => by
                  subst e
                  rw [hk] at hy
                  cases hy
                  obtain ⟨_, y', hy', hyk⟩ := stIx_spec _ _ _ _ hp
                  rw [Nat.sub_zero, hk] at hy'
                  cases hy'
                  exact hj hyk.symm
                rw [add_ne d hpi]
                split
                · rename_i hd
                  obtain ⟨_, hq', _⟩ := sto_op h hy (ops_of h hy)
                  have : R.srcv (upd f i undef) y.s = R.srcv f y.s := by
                    unfold srcv
                    split
                    · rename_i q hqs
                      have hdq := hC q p (hq' q hqs) hd
                      exact val_upd h hC f _ hi hdq
                    · rfl
                  rw [this]
                · rfl
              · rfl
          unfold bxf
          split
          · congr 1
            funext b
            rw [haj]
          · split
            · rename_i ty zs hq'
              have hne : j - R.bx.length ≠ i := fun e => by rw [e, hk] at hq'; cases hq'
              rw [add_ne d hne, upd_ne f _ hne, haj]
            · rfl
        have hbox : ∃ b, R.visb i f x.k = some b ∧ R.bxf d f x.k = some b ∧ R.bxf (add d i) (upd f i undef) x.k = some ⟨b.blk, b.ty, patch b.cs x.off (R.srcv f x.s).cells.toList⟩ := by
          by_cases hlt : x.k < R.bx.length
          · have hb : R.bx[x.k]? = some R.bx[x.k] := List.getElem?_eq_getElem hlt
            refine ⟨⟨R.bx[x.k].blk, R.bx[x.k].ty, R.bx[x.k].cs⟩, ?_, ?_, ?_⟩
            · unfold visb
              rw [if_pos hlt, hb]
              simp only [hvc, Option.map_some]
            · unfold bxf
              rw [if_pos hlt, hb, Option.map_some, (happ _).1]
            · unfold bxf
              rw [if_pos hlt, hb, Option.map_some, (happ _).2]
          · obtain ⟨hdk, ty, zs, hz⟩ := hnw (by omega)
            have hne : x.k - R.bx.length ≠ i := fun e => by rw [e, hk] at hz; cases hz
            refine ⟨⟨blkOf (f (x.k - R.bx.length)), ty, zs⟩, ?_, ?_, ?_⟩
            · unfold visb
              rw [if_neg hlt, hz]
              simp only [hdk, if_true, hvc, Option.map_some]
            · unfold bxf
              rw [if_neg hlt, hz]
              simp only [hdep _ hdk, if_true, (happ _).1]
            · unfold bxf
              rw [if_neg hlt, hz]
              simp only [add_ne d hne, hdep _ hdk, if_true, upd_ne f _ hne, (happ _).2]
        obtain ⟨b, hv, hb, hb'⟩ := hbox
        rw [hob f u w hsee b hv]
        refine ⟨closed_add hC hdep, upd f i undef, u, fr_put h hC hi hF ho (.inr hdst), hu, (hS.congr (fun _ => rfl) (fun k => rwf_same i f _ k (fun m r e => by rw [hk] at e; cases e) (fun m r e => by rw [hk] at e; cases e) (fun r e => by rw [hk] at e; cases e))).store x.k b _ hb hb' hoth, fun k S hks hd => ?_, fun k ty' zs' hks hd => ?_⟩
        · have hki : k ≠ i := fun e => by rw [e, hk] at hks; cases hks
          rw [upd_ne f _ hki]
          rw [add_ne d hki] at hd
          exact hq k S hks hd
        · have hki : k ≠ i := fun e => by rw [e, hk] at hks; cases hks
          rw [upd_ne f _ hki]
          rw [add_ne d hki] at hd
          exact hn k ty' zs' hks hd
      | rop m r =>
        unfold okK at hkk
        rw [hk] at hkk
        simp only [Bool.and_eq_true, beq_iff_eq] at hkk
        have hix := hkk.1.2
        have hvr : ∃ r0, R.visr i f m = some r0 := by
          unfold visr
          simp only [hix, beq_self_eq_true, Bool.or_true, if_true]
          rcases row_dep h hix with hl | ⟨hd, s, hs⟩
          · exact ⟨R.rw[m], by rw [if_pos hl, List.getElem?_eq_getElem hl]⟩
          · by_cases hl : m < R.rw.length
            · exact ⟨R.rw[m], by rw [if_pos hl, List.getElem?_eq_getElem hl]⟩
            · exact ⟨_, by rw [if_neg hl]; simp only [hs, hd, if_true]; rfl⟩
        obtain ⟨r0, hvr⟩ := hvr
        have hold : R.rwf d f m = some r0 := see_row hC hi hdep hvr
        obtain ⟨v, w', hr, hg, hrv, hown, hblk⟩ := hob f u w hsee _ hvr
        rw [hr]
        have hs : ∀ x, R.ks[i]? ≠ some (.sto x) := fun x e => by rw [hk] at e; cases e
        have hmk : ∀ r, R.ks[i]? ≠ some (.mk r) := fun r e => by rw [hk] at e; cases e
        refine ⟨closed_add hC hdep, upd f i v, u, fr_put h hC hi hF ho (.inl (by simp [val, hk, upd_same])), hu, (hS.congr (fun k => bxf_same hC h hi hs f v k (.inr (fun _ _ e => by rw [hk] at e; cases e))) (fun _ => rfl)).grow m r0.v (r v) (.inl ⟨_, hold, rfl⟩) ?_ (fun j hj => rwf_other i m f v hix hmk j hj) hg hown (by rw [hrv]; exact hblk), fun k S hks hd => ?_, fun k ty' zs' hks hd => ?_⟩
        · unfold rwf at hold ⊢
          rw [rwb_same i f v m hmk]
          obtain ⟨b, hb, _⟩ := Option.map_eq_some_iff.1 hold
          rw [hb, Option.map_some]
          unfold rwo
          simp [hix, add_same, hk, upd_same]
        · have hki : k ≠ i := fun e => by rw [e, hk] at hks; cases hks
          rw [upd_ne f _ hki]
          rw [add_ne d hki] at hd
          exact hq k S hks hd
        · have hki : k ≠ i := fun e => by rw [e, hk] at hks; cases hks
          rw [upd_ne f _ hki]
          rw [add_ne d hki] at hd
          exact hn k ty' zs' hks hd
      | rst m r =>
        unfold okK at hkk
        rw [hk] at hkk
        simp only [Bool.and_eq_true, beq_iff_eq] at hkk
        have hix := hkk.1.2
        have hdst : o.dst = none := by simpa using hkk.1.1.2
        have hvr : ∃ r0, R.visr i f m = some r0 := by
          unfold visr
          simp only [hix, beq_self_eq_true, Bool.or_true, if_true]
          rcases row_dep h hix with hl | ⟨hd, s, hs⟩
          · exact ⟨R.rw[m], by rw [if_pos hl, List.getElem?_eq_getElem hl]⟩
          · by_cases hl : m < R.rw.length
            · exact ⟨R.rw[m], by rw [if_pos hl, List.getElem?_eq_getElem hl]⟩
            · exact ⟨_, by rw [if_neg hl]; simp only [hs, hd, if_true]; rfl⟩
        obtain ⟨r0, hvr⟩ := hvr
        have hold : R.rwf d f m = some r0 := see_row hC hi hdep hvr
        obtain ⟨w', hr, hg, hown, hblk⟩ := hob f u w hsee _ hvr
        rw [hr]
        have hs : ∀ x, R.ks[i]? ≠ some (.sto x) := fun x e => by rw [hk] at e; cases e
        have hmk : ∀ r, R.ks[i]? ≠ some (.mk r) := fun r e => by rw [hk] at e; cases e
        refine ⟨closed_add hC hdep, upd f i undef, u, fr_put h hC hi hF ho (.inr hdst), hu, (hS.congr (fun k => bxf_same hC h hi hs f undef k (.inr (fun _ _ e => by rw [hk] at e; cases e))) (fun _ => rfl)).grow m r0.v r (.inl ⟨_, hold, rfl⟩) ?_ (fun j hj => rwf_other i m f undef hix hmk j hj) hg hown (.inl hblk), fun k S hks hd => ?_, fun k ty' zs' hks hd => ?_⟩
        · unfold rwf at hold ⊢
          rw [rwb_same i f undef m hmk]
          obtain ⟨b, hb, _⟩ := Option.map_eq_some_iff.1 hold
          rw [hb, Option.map_some]
          unfold rwo
          simp [hix, add_same, hk]
        · have hki : k ≠ i := fun e => by rw [e, hk] at hks; cases hks
          rw [upd_ne f _ hki]
          rw [add_ne d hki] at hd
          exact hq k S hks hd
        · have hki : k ≠ i := fun e => by rw [e, hk] at hks; cases hks
          rw [upd_ne f _ hki]
          rw [add_ne d hki] at hd
          exact hn k ty' zs' hks hd
      | mk r =>
        obtain ⟨v, w', hr, hg, hrv, hown, hblk⟩ := hob f u w hsee
        rw [hr]
        have hs : ∀ x, R.ks[i]? ≠ some (.sto x) := fun x e => by rw [hk] at e; cases e
        have hrix : ∀ k, rowIx k R.ks 0 ≠ some i := rix_ne (fun m r e => by rw [hk] at e; cases e) (fun m r e => by rw [hk] at e; cases e)
        refine ⟨closed_add hC hdep, upd f i v, u, fr_put h hC hi hF ho (.inl (by simp [val, hk, upd_same])), hu, (hS.congr (fun k => bxf_same hC h hi hs f v k (.inr (fun _ _ e => by rw [hk] at e; cases e))) (fun _ => rfl)).grow (R.rw.length + i) (.slice none 0 0) (r v) (.inr rfl) ?_ (fun j hj => ?_) hg hown (by rw [hrv]; exact hblk), fun k S hks hd => ?_, fun k ty' zs' hks hd => ?_⟩
        · unfold rwf
          have hb : R.rwb (add d i) (upd f i v) (R.rw.length + i) = some (r v) := by
            unfold rwb
            rw [if_neg (by omega), Nat.add_sub_cancel_left, hk]
            simp [add_same, upd_same]
          rw [hb, Option.map_some]
          unfold rwo
          split
          · rfl
          · rename_i q hq'
            have hqi : q ≠ i := fun e => hrix _ (by rw [hq', e])
            have hdq : d q = false := by
              rcases row_dep h hq' with hl | ⟨hd, _⟩
              · omega
              · rw [Nat.add_sub_cancel_left] at hd
                cases hx : d q with
                | false => rfl
                | true => have := hC _ _ hd hx; rw [hi] at this; cases this
            rw [add_ne d hqi, hdq]
            rfl
        · unfold rwf
          have hb : R.rwb (add d i) (upd f i v) j = R.rwb d f j := by
            unfold rwb
            split
            · rfl
            · split
              · rename_i s hq'
                have hne : j - R.rw.length ≠ i := fun e => by omega
                rw [add_ne d hne, upd_ne f v hne]
              · rfl
          rw [hb]
          congr 1
          funext r'
          exact rwo_same i f v j r' (hrix j)
        · have hki : k ≠ i := fun e => by rw [e, hk] at hks; cases hks
          rw [upd_ne f _ hki]
          rw [add_ne d hki] at hd
          exact hq k S hks hd
        · have hki : k ≠ i := fun e => by rw [e, hk] at hks; cases hks
          rw [upd_ne f _ hki]
          rw [add_ne d hki] at hd
          exact hn k ty' zs' hks hd
    · rw [wanted_want h hF ho hdep hw, if_neg (by simp)]
      exact t_val h hP ho hi hdep hC hF hu hS hq hn (Adv.refl hS.sub) undef (.inl hk)
end
end Reg
end Go.Proofs.Ytaagioghkicdkaa
