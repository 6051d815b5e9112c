/- A logic for regions whose order is open: its rules. -/
import Derived.Test.YtaagioghkicdkaaUB
import Derived.Tactics
set_option linter.unusedVariables false
set_option linter.unusedSimpArgs false
namespace Go.Proofs.Ytaagioghkicdkaa
open Go.RowKit

namespace Reg
variable {R : Reg} {P : Program} {Q : Exit → Act → World → Prop} {w0 u0 : World}
def all (R : Reg) : Nat → Bool := fun k => decide (k < R.ops.size)

theorem getD_set (l : Array Bool) (i k : Nat) (hi : i < l.size) : (l.setIfInBounds i true).getD k false = (k == i || l.getD k false) := by
  by_cases h : k = i
  · subst h; simp [hi]
  · have h' : (k == i) = false := by simpa using h
    rw [h', Bool.false_or, Array.getD_eq_getD_getElem?, Array.getD_eq_getD_getElem?, Array.getElem?_setIfInBounds_ne (Ne.symm h)]

theorem ready_all (h : R.ok = true) (l : Array Bool) (hl : l.size = R.ops.size) (hr : Region.ready .any R.ops l = []) : ∀ k, k < R.ops.size → l.getD k false = true := by
  intro k
  induction k using Nat.strongRecOn with
  | _ k ih =>
    intro hk
    cases hq : l.getD k false with
    | true => rfl
    | false =>
      have hm : k ∈ Region.ready .any R.ops l := mem_ready.2 ⟨by simp [hl, hk] at hq ⊢; exact hq, R.ops[k], Array.getElem?_eq_getElem hk, fun e he hb => by
        have hd : R.dep e.on k = true := dep_of (Array.getElem?_eq_getElem hk) he hb
        have := dep_lt h hd
        exact ih _ this (by omega)⟩
      rw [hr] at hm
      cases hm

def left (l : Array Bool) : Nat := (l.toList.filter (· == false)).length
theorem left_set {l : Array Bool} {i : Nat} (hi : i < l.size) (hf : l.getD i true = false) : left (l.setIfInBounds i true) + 1 = left l := by
  have aux : ∀ (l : List Bool) (i : Nat), l[i]? = some false → ((l.set i true).filter (· == false)).length + 1 = (l.filter (· == false)).length := by
    intro l
    induction l with
    | nil => intro i h; simp at h
    | cons x r ih =>
      intro i h
      cases i with
      | zero => simp at h; subst h; simp
      | succ i =>
        have := ih i (by simpa using h)
        cases x <;> simp_all <;> omega
  unfold left
  rw [Array.toList_setIfInBounds]
  exact aux _ _ (by simp [hi] at hf ⊢; exact hf)

theorem any_T (h : R.ok = true) (hP : R.Obs P w0 u0 0 R.ops.toList R.ks) (fin : ∀ a w, R.T w0 u0 R.all a w → Q .normal a w) :
    ∀ (fuel : Nat) (l : Array Bool) (a : Act) (w : World), l.size = R.ops.size → left l ≤ fuel → R.T w0 u0 (fun k => l.getD k false) a w → wpAny P .any R.ops Q fuel l a w := by
  have done : ∀ (l : Array Bool) (a : Act) (w : World), l.size = R.ops.size → Region.ready .any R.ops l = [] → R.T w0 u0 (fun k => l.getD k false) a w → Q .normal a w := fun l a w hl hr hT => by
    have e : (fun k => l.getD k false) = R.all := by
      funext k
      unfold all
      by_cases hk : k < R.ops.size
      · rw [ready_all h l hl hr k hk]; simp [hk]
      · simp [hk, Array.getElem?_eq_none (show l.size ≤ k by omega)]
    rw [e] at hT
    exact fin a w hT
  intro fuel
  induction fuel with
  | zero =>
    intro l a w hl hf hT
    have hr : Region.ready .any R.ops l = [] := by
      cases hr : Region.ready .any R.ops l with
      | nil => rfl
      | cons i r =>
        have hm : i ∈ Region.ready .any R.ops l := by rw [hr]; simp
        obtain ⟨h1, o, ho, _⟩ := mem_ready.1 hm
        have hi : i < l.size := by rw [hl]; exact (Array.getElem?_eq_some_iff.1 ho).1
        have := left_set hi h1
        omega
    exact ⟨hr, done l a w hl hr hT⟩
  | succ fuel ih =>
    intro l a w hl hf hT
    refine ⟨fun hr => done l a w hl hr hT, fun i hi => ?_⟩
    obtain ⟨h1, o, ho, hall⟩ := mem_ready.1 hi
    have hlt : i < l.size := by rw [hl]; exact (Array.getElem?_eq_some_iff.1 ho).1
    have hst := t_step (Q := Q) h hP ho hT (by simp [hlt] at h1 ⊢; exact h1) (fun k hk => by
      unfold dep at hk
      rw [ho] at hk
      obtain ⟨e, he, h2⟩ := List.any_eq_true.1 hk
      simp only [Bool.and_eq_true, beq_iff_eq] at h2
      rw [← h2.2]
      exact hall e (by simpa using he) h2.1)
    refine wpOp_mono (fun a' w' hT' => ih _ a' w' (by simpa using hl) (by have := left_set hlt h1; omega) ?_) hst
    have e : (fun k => (l.setIfInBounds i true).getD k false) = add (fun k => l.getD k false) i := by
      funext k
      rw [getD_set l i k hlt]
      rfl
    rw [e]
    exact hT'

theorem seq_T (h : R.ok = true) (hP : R.Obs P w0 u0 0 R.ops.toList R.ks) (fin : ∀ a w, R.T w0 u0 R.all a w → Q .normal a w) :
    ∀ (m s : Nat) (a : Act) (w : World), s + m = R.ops.size → R.T w0 u0 (fun k => decide (k < s)) a w → wpOps P R.ops Q (List.range' s m) a w := by
  intro m
  induction m with
  | zero =>
    intro s a w hs hT
    simp only [List.range'_zero, wpOps]
    refine fin a w ?_
    have : s = R.ops.size := by omega
    subst this
    exact hT
  | succ m ih =>
    intro s a w hs hT
    rw [List.range'_succ, wpOps_cons]
    have hst := t_step (Q := Q) h hP (Array.getElem?_eq_getElem (show s < R.ops.size by omega)) hT (by simp) (fun k hk => by have := dep_lt h hk; simpa using this)
    refine wpOp_mono (fun a' w' hT' => ih (s + 1) a' w' (by omega) ?_) hst
    have e : (fun k => decide (k < s + 1)) = add (fun k => decide (k < s)) s := by
      funext k
      unfold add
      rw [Bool.eq_iff_iff]
      simp only [decide_eq_true_eq, Bool.or_eq_true, beq_iff_eq]
      omega
    rw [e]
    exact hT'

theorem t_start {a : Act} {w : World} (hF : Fr R.n a (lk R.g)) (hS : StF w0 (fun k => R.bx[k]?) (fun k => R.rw[k]?) u0 w) : R.T w0 u0 (fun _ => false) a w := by
  refine ⟨(fun _ _ _ h => by cases h), fun _ => undef, u0, ⟨hF.defers, hF.size, fun t v hv => hF.slot t v ?_⟩, Gr.refl _ _, hS.congr (fun k => ?_) (fun k => ?_), (fun _ _ _ h => by cases h), (fun _ _ _ _ h => by cases h)⟩
  · unfold gd at hv
    split at hv <;> simpa using hv
  · have hap : ∀ l, R.app (fun _ => false) (fun _ => undef) k l = l := fun l => by
      unfold app
      split
      · rfl
      · split <;> simp
    unfold bxf
    split
    · rename_i hk
      rw [List.getElem?_eq_getElem hk, Option.map_some, hap]
    · rename_i hk
      have hb : R.bx[k]? = none := List.getElem?_eq_none (Nat.le_of_not_lt hk)
      simp only [hb]
      split <;> simp
  · have hb : R.rwb (fun _ => false) (fun _ => undef) k = R.rw[k]? := by
      unfold rwb
      split
      · rfl
      · rename_i hk
        have hb : R.rw[k]? = none := List.getElem?_eq_none (Nat.le_of_not_lt hk)
        rw [hb]
        split <;> simp
    unfold rwf
    rw [hb]
    cases R.rw[k]? with
    | none => rfl
    | some r =>
      rw [Option.map_some]
      unfold rwo
      split <;> simp
theorem wp_any (hm : P.follows .mixedOrders = true) (h : R.ok = true) (hP : R.Obs P w0 u0 0 R.ops.toList R.ks) {a : Act} {w : World} (hF : Fr R.n a (lk R.g)) (hS : StF w0 (fun k => R.bx[k]?) (fun k => R.rw[k]?) u0 w)
    (fin : ∀ a w, R.T w0 u0 R.all a w → Q .normal a w) (id : Nat) (draw : Bool) : (Code.region id R.ops draw).wp P Q a w := by
  cases draw with
  | true =>
    refine wp_region_any hm (any_T h hP fin _ _ _ _ (by simp) (by unfold left; refine Nat.le_trans (List.length_filter_le _ _) ?_; simp) ?_)
    have e : (fun k => (Array.replicate R.ops.size false).getD k false) = fun _ => false := by
      funext k
      by_cases hk : k < R.ops.size <;> simp [hk]
    rw [e]
    exact t_start hF hS.drew
  | false =>
    refine wp_region ?_
    rw [List.range_eq_range']
    exact seq_T h hP fin _ 0 a w (by omega) (by
      have e : (fun k => decide (k < 0)) = fun _ => false := by funext k; simp
      rw [e]
      exact t_start hF hS)

/-- What is known behind a region. -/
def Facts (R : Reg) (f : Nat → Value) (u : World) : Nat → List K → Prop
  | _, [] => True
  | i, .opq S :: r => S u (f i) ∧ Facts R f u (i + 1) r
  | i, .new _ _ :: r => Facts R f u (i + 1) r
  | i, .con _ :: r => Facts R f u (i + 1) r
  | i, .sto _ :: r => Facts R f u (i + 1) r
  | i, .rop _ _ :: r => Facts R f u (i + 1) r
  | i, .rst _ _ :: r => Facts R f u (i + 1) r
  | i, .mk _ :: r => Facts R f u (i + 1) r
  | i, .cpy _ :: r => Facts R f u (i + 1) r
theorem facts_of (f : Nat → Value) (u : World) : ∀ (l : List K) (s : Nat), (∀ (i : Nat) (S : World → Value → Prop), l[i]? = some (.opq S) → S u (f (s + i))) → R.Facts f u s l
  | [], _, _ => trivial
  | k :: r, s, h1 => by
    have hr := facts_of f u r (s + 1) (fun i S hi => by have := h1 (i + 1) S (by simpa using hi); rwa [show s + (i + 1) = s + 1 + i by omega] at this)
    cases k with
    | opq S => exact ⟨h1 0 S (by simp), hr⟩
    | _ => exact hr
/-- The new boxes' places laid open. -/
def fp (R : Reg) (p : Nat → Nat) (f : Nat → Value) : Nat → Value := fun i => match R.ks[i]? with
  | some (.new _ _) => .pointer (some ⟨p i, 0, none⟩)
  | _ => f i
/-- Slots and boxes that are kept. -/
def outg (R : Reg) (f : Nat → Value) (gs : List Nat) : List (Nat × Value) := gs.filterMap fun t => (R.gd R.all f t).map fun v => (t, v)
def outb (R : Reg) (f : Nat → Value) (bs : List Nat) : List Box := bs.filterMap fun k => R.bxf R.all f k
def outr (R : Reg) (f : Nat → Value) (rs : List Nat) : List Row := rs.filterMap fun k => R.rwf R.all f k
end Reg

theorem lk_outg (G : Nat → Option Value) : ∀ (gs : List Nat) (t : Nat) (v : Value), lk (gs.filterMap fun t => (G t).map fun v => (t, v)) t = some v → G t = some v
  | [], _, _, h => by simp [lk] at h
  | x :: r, t, v, h => by
    rw [List.filterMap_cons] at h
    cases hx : G x with
    | none => rw [hx] at h; exact lk_outg G r t v h
    | some y =>
      rw [hx] at h
      simp only [Option.map_some, lk] at h
      split at h
      · rename_i e
        have : x = t := by simpa using e
        subst this
        rw [hx]; exact h
      · exact lk_outg G r t v h
theorem ix_of_pairwise {α : Type} {p : α → α → Prop} {l : List α} (h : l.Pairwise p) {i j : Nat} {a b : α} (hi : l[i]? = some a) (hj : l[j]? = some b) (hij : i < j) : p a b := by
  rw [List.pairwise_iff_getElem] at h
  obtain ⟨h1, h2⟩ := List.getElem?_eq_some_iff.1 hi
  obtain ⟨h3, h4⟩ := List.getElem?_eq_some_iff.1 hj
  have := h i j h1 h3 hij
  rwa [h2, h4] at this
theorem StF.out {w0 u w : World} {bx : Nat → Option Box} {rw : Nat → Option Row} (h : StF w0 bx rw u w) (bs rs : List Nat) (hn : bs.Nodup) (hm : rs.Nodup) : St w0 (bs.filterMap bx) (rs.filterMap rw) u w := by
  have hp : (bs.filterMap bx).Pairwise fun b c => b.blk ≠ c.blk := by
    rw [List.pairwise_filterMap]
    exact hn.imp (fun {i j} hij b hb c hc e => hij (h.inj i j b c hb hc e))
  have hq : (rs.filterMap rw).Pairwise fun r s => ∀ k, r.v.ownBlock = some k → s.v.ownBlock ≠ some k := by
    rw [List.pairwise_filterMap]
    exact hm.imp (fun {i j} hij r hr s hs k hk hk' => hij (h.rrw i j r s k hr hs hk hk'))
  refine ⟨h.below, h.sub, fun i j b c hi hj e => ?_, fun i b hi => ?_, fun i r hi => ?_, fun i j r b hi hj => ?_, fun i j r s k hi hj hr hs => ?_⟩
  · rcases Nat.lt_trichotomy i j with hl | hl | hl
    · exact absurd e (ix_of_pairwise hp hi hj hl)
    · exact hl
    · exact absurd e.symm (ix_of_pairwise hp hj hi hl)
  · obtain ⟨k, _, hk⟩ := List.mem_filterMap.1 (List.mem_of_getElem? hi)
    exact h.box k b hk
  · obtain ⟨k, _, hk⟩ := List.mem_filterMap.1 (List.mem_of_getElem? hi)
    exact h.row k r hk
  · obtain ⟨k, _, hk⟩ := List.mem_filterMap.1 (List.mem_of_getElem? hi)
    obtain ⟨l, _, hl⟩ := List.mem_filterMap.1 (List.mem_of_getElem? hj)
    exact h.rbx k l r b hk hl
  · rcases Nat.lt_trichotomy i j with hl | hl | hl
    · exact absurd hs (ix_of_pairwise hq hi hj hl k hr)
    · exact hl
    · exact absurd hr (ix_of_pairwise hq hj hi hl k hs)

/-- In the state of these slots and boxes. -/
def PN (n : Nat) (w0 : World) (Q : Act → World → Prop) (g : List (Nat × Value)) (bx : List Box) (rw : List Row) (u : World) : Prop := ∀ a w, Fr n a (lk g) → St w0 bx rw u w → Q a w
def Tri (P : Program) (c : Code) (Q : Exit → Act → World → Prop) (n : Nat) (w0 : World) (g : List (Nat × Value)) (bx : List Box) (rw : List Row) (u : World) : Prop := PN n w0 (fun a w => c.wp P Q a w) g bx rw u

section
variable {P : Program} {Q : Exit → Act → World → Prop} {n : Nat} {w0 u : World} {g : List (Nat × Value)} {bx : List Box} {rw : List Row}
/-- A region. -/
theorem tri_reg (hm : P.follows .mixedOrders = true) {ops : Array Oper} (ks : List K) (gs bs rs : List Nat) (h : (Reg.mk ops ks bx rw g n).ok = true) (hn : (bs.Nodup ∧ rs.Nodup)) (hP : (Reg.mk ops ks bx rw g n).Obs P w0 u 0 ops.toList ks)
    (fin : ∀ p f u', Gr w0.heap.size u u' → (Reg.mk ops ks bx rw g n).Facts f u' 0 ks → PN n w0 (Q .normal) ((Reg.mk ops ks bx rw g n).outg ((Reg.mk ops ks bx rw g n).fp p f) gs) ((Reg.mk ops ks bx rw g n).outb ((Reg.mk ops ks bx rw g n).fp p f) bs) ((Reg.mk ops ks bx rw g n).outr ((Reg.mk ops ks bx rw g n).fp p f) rs) u') (id : Nat) (draw : Bool) :
    Tri P (Code.region id ops draw) Q n w0 g bx rw u := fun a w hF hS =>
  Reg.wp_any (R := Reg.mk ops ks bx rw g n) hm h hP hF hS (fun a' w' hT => by
    obtain ⟨_, f, u', hF', hu, hS', hq, hw⟩ := hT
    have hall : ∀ {i : Nat} {k : K}, ks[i]? = some k → (Reg.mk ops ks bx rw g n).all i = true := fun {i k} hk => by
      obtain ⟨o, ho⟩ := Reg.ops_of h hk
      have : i < ops.size := (Array.getElem?_eq_some_iff.1 ho).1
      simp [Reg.all, this]
    have hp : ∃ p : Nat → Nat, (Reg.mk ops ks bx rw g n).fp p f = f := by
      refine ⟨fun i => blkOf (f i), funext fun i => ?_⟩
      unfold Reg.fp
      split
      · rename_i ty zs hi
        obtain ⟨p, hp⟩ := hw i ty zs hi (hall hi)
        show Value.pointer (some ⟨blkOf (f i), 0, none⟩) = f i
        rw [hp]
        rfl
      · rfl
    obtain ⟨p, hp⟩ := hp
    have := fin p f u' hu (Reg.facts_of f u' ks 0 (fun i S hi => by rw [Nat.zero_add]; exact hq i S hi (hall hi)))
    rw [hp] at this
    exact this a' w' ⟨hF'.defers, hF'.size, fun t v hv => hF'.slot t v (lk_outg _ gs t v hv)⟩ (hS'.out bs rs hn.1 hn.2)) id draw
theorem tri_seq {x y : Code} (h : Tri P x (Exit.then (y.wp P Q) Q) n w0 g bx rw u) : Tri P (.seq x y) Q n w0 g bx rw u := fun a w hF hS => wp_seq (h a w hF hS)
/-- On to what follows. -/
theorem next {y : Code} {g' : List (Nat × Value)} {bx' : List Box} {rw' : List Row} (h1 : g = g') (h2 : bx = bx') (h3 : rw = rw') (h : Tri P y Q n w0 g' bx' rw' u) : PN n w0 (Exit.then (y.wp P Q) Q .normal) g bx rw u := by
  subst h1; subst h2; subst h3; exact h
theorem PN.cast {Q : Act → World → Prop} {g' : List (Nat × Value)} {bx' : List Box} {rw' : List Row} (h1 : g = g') (h2 : bx = bx') (h3 : rw = rw') (h : PN n w0 Q g' bx' rw' u) : PN n w0 Q g bx rw u := by
  subst h1; subst h2; subst h3; exact h
/-- These slots are among those. -/
def SubL : List (Nat × Value) → List (Nat × Value) → Prop
  | [], _ => True
  | (t, v) :: r, g => lk g t = some v ∧ SubL r g
theorem subL_lk : ∀ (r g : List (Nat × Value)) (t : Nat) (v : Value), SubL r g → lk r t = some v → lk g t = some v
  | [], _, _, _, _, h => by cases h
  | (k, x) :: r, g, t, v, ⟨h1, h2⟩, h => by
    simp only [lk] at h
    split at h
    · rename_i e
      have : k = t := by simpa using e
      subst this
      rw [h1]; exact h
    · exact subL_lk r g t v h2 h
theorem PN.sub {Q : Act → World → Prop} {g' : List (Nat × Value)} {bx' : List Box} {rw' : List Row} (h1 : SubL g' g) (h2 : bx = bx') (h3 : rw = rw') (h : PN n w0 Q g' bx' rw' u) : PN n w0 Q g bx rw u := by
  subst h2; subst h3
  exact fun a w hF hS => h a w ⟨hF.defers, hF.size, fun t v hv => hF.slot t v (subL_lk _ _ _ _ h1 hv)⟩ hS
/-- Ways that meet again. -/
theorem tri_join {x y : Code} (I : List (Nat × Value) → List Box → List Row → World → Prop) (hx : Tri P x (Exit.then (fun a w => ∃ g bx rw u, I g bx rw u ∧ Fr n a (lk g) ∧ St w0 bx rw u w) Q) n w0 g bx rw u) (hy : ∀ g bx rw u, I g bx rw u → Tri P y Q n w0 g bx rw u) : Tri P (.seq x y) Q n w0 g bx rw u := fun a w hF hS =>
  wp_seq (wp_mono (hx a w hF hS) fun e a' w' hq => by
    cases e with
    | normal => obtain ⟨g, bx, rw, u, hI, hF', hS'⟩ := hq; exact hy g bx rw u hI a' w' hF' hS'
    | _ => exact hq)
theorem pn_join {I : List (Nat × Value) → List Box → List Row → World → Prop} (h : I g bx rw u) : PN n w0 (fun a w => ∃ g bx rw u, I g bx rw u ∧ Fr n a (lk g) ∧ St w0 bx rw u w) g bx rw u := fun a w hF hS => ⟨g, bx, rw, u, h, hF, hS⟩
theorem tri_skip (h : PN n w0 (Q .normal) g bx rw u) : Tri P .skip Q n w0 g bx rw u := fun a w hF hS => wp_skip (h a w hF hS)
theorem tri_exit {id : Nat} (h : PN n w0 (Q (.exit id)) g bx rw u) : Tri P (.exit id) Q n w0 g bx rw u := fun a w hF hS => wp_exit (h a w hF hS)
theorem tri_block {id : Nat} {c : Code} (h : Tri P c (Exit.inBlock id Q) n w0 g bx rw u) : Tri P (.block id c) Q n w0 g bx rw u := fun a w hF hS => wp_block (h a w hF hS)
theorem fr_eval {a : Act} (hF : Fr n a (lk g)) {t : Nat} {v : Value} (h : lk g t = some v) : a.eval (.tmp t) = v := by
  have := hF.slot t v h
  simp [Act.eval, this]
theorem tri_true {t : Nat} {x y : Code} (hc : lk g t = some (.bool true)) (h : Tri P x Q n w0 g bx rw u) : Tri P (.cond (.tmp t) x y) Q n w0 g bx rw u := fun a w hF hS => wp_cond_true (fr_eval hF hc) (h a w hF hS)
theorem tri_false {t : Nat} {x y : Code} (hc : lk g t = some (.bool false)) (h : Tri P y Q n w0 g bx rw u) : Tri P (.cond (.tmp t) x y) Q n w0 g bx rw u := fun a w hF hS => wp_cond_false (fr_eval hF hc) (h a w hF hS)
theorem tri_cond {t : Nat} {x y : Code} {b : Bool} (hc : lk g t = some (.bool b)) (h1 : b = true → Tri P x Q n w0 g bx rw u) (h2 : b = false → Tri P y Q n w0 g bx rw u) : Tri P (.cond (.tmp t) x y) Q n w0 g bx rw u := by
  cases b
  · exact tri_false hc (h2 rfl)
  · exact tri_true hc (h1 rfl)
theorem least (p : Nat → Prop) (h : ∃ n, p n) : ∃ n, p n ∧ ∀ m, p m → n ≤ m := by
  obtain ⟨n, hn⟩ := h
  induction n using Nat.strongRecOn with
  | _ n ih =>
    by_cases hx : ∃ m, m < n ∧ p m
    · obtain ⟨m, h1, h2⟩ := hx; exact ih m h1 h2
    · exact ⟨n, hn, fun m hm => Nat.le_of_not_lt (fun h => hx ⟨m, h, hm⟩)⟩
/-- The state at a loop's head. -/
def At (n : Nat) (w0 : World) (J : Nat → List (Nat × Value) → List Box → List Row → World → Prop) (m : Nat) (a : Act) (w : World) : Prop := ∃ g bx rw u, J m g bx rw u ∧ Fr n a (lk g) ∧ St w0 bx rw u w
theorem pn_at {J : Nat → List (Nat × Value) → List Box → List Row → World → Prop} {m m' : Nat} (hm : m' < m) (h : J m' g bx rw u) : PN n w0 (fun a w => ∃ m', m' < m ∧ At n w0 J m' a w) g bx rw u := fun a w hF hS => ⟨m', hm, g, bx, rw, u, h, hF, hS⟩
theorem tri_loop {c : Code} (J : Nat → List (Nat × Value) → List Box → List Row → World → Prop) (m : Nat) (h0 : J m g bx rw u)
    (round : ∀ m g bx rw u, J m g bx rw u → Tri P c (Exit.then (fun a w => ∃ m', m' < m ∧ At n w0 J m' a w) Q) n w0 g bx rw u) : Tri P (.loop c) Q n w0 g bx rw u := fun a w hF hS => by
  classical
  refine wp_loop (fun a w => ∃ m, At n w0 J m a w) (fun a w => if h : ∃ m, At n w0 J m a w then Classical.choose (least _ h) else 0) ⟨m, g, bx, rw, u, h0, hF, hS⟩ fun a w hI => ?_
  have hl := Classical.choose_spec (least _ hI)
  obtain ⟨g, bx, rw, u, hJ, hF, hS⟩ := hl.1
  refine wp_mono (round _ g bx rw u hJ a w hF hS) fun e a' w' hq => ?_
  cases e with
  | normal =>
    obtain ⟨m', hlt, hA⟩ := hq
    have hI' : ∃ m, At n w0 J m a' w' := ⟨m', hA⟩
    refine ⟨hI', ?_⟩
    rw [dif_pos hI', dif_pos hI]
    exact Nat.lt_of_le_of_lt ((Classical.choose_spec (least _ hI')).2 m' hA) hlt
  | _ => exact hq

/-! ### a function -/
/-- What a result variable gives. -/
def RV (P : Program) (g : List (Nat × Value)) (bx : List Box) : ResultVar → Value → Prop
  | .tmp t, v => lk g t = some v
  | .cell a ty, v => ∃ (k : Nat) (p : Nat) (t : TypeId) (cs : List Value), lk g a = some (.pointer (some ⟨p, 0, none⟩)) ∧ bx[k]? = some ⟨p, t, cs⟩ ∧ ∀ w : World, w.heap[p]? = some (.cells cs.toArray t (0, 0)) → (loadVar ty ⟨p, 0, none⟩).run P w = .ok v w
def Back (w0 u : World) (Post : World → Value → Prop) (e : Ending) (w' : World) : Prop := ∃ v u', e = .returned v ∧ Adv w0 u w' u' ∧ Post u' v
def rvSem (tmps : Array Value) : ResultVar → Sem Value
  | .tmp t => pure (tmps.getD t undef)
  | .cell a t => do loadVar t (← asAddr (tmps.getD a undef))
theorem rv_run {r : ResultVar} {v : Value} {a : Act} {w : World} (h : RV P g bx r v) (hF : Fr n a (lk g)) (hS : St w0 bx rw u w) :
    (rvSem a.tmps r).run P w = .ok v w := by
  cases r with
  | tmp t =>
    have := hF.slot t v h
    simp [rvSem, this]
  | cell x ty =>
    obtain ⟨k, p, t, cs, h1, h2, h3⟩ := h
    have h4 := hF.slot x _ h1
    have h5 := h3 w (hS.box k _ h2).2.2
    simp [rvSem, h4, asAddr, h5]
theorem adv_back {u0 w : World} (hg : Gr w0.heap.size u0 u) (hS : St w0 bx rw u w) : Adv w0 u0 w u := ⟨hS.below, hg.1, hS.sub, hg.2⟩
variable {u0 : World} {Post : World → Value → Prop} {fn : Func}
theorem ret1 {r : ResultVar} (hr : fn.results = #[r]) (v : Value) (h : RV P g bx r v) (hg : Gr w0.heap.size u0 u) (hp : Post u v) : PN n w0 (bodyPost P fn (Back w0 u0 Post) .ret) g bx rw u := fun a w hF hS =>
  bodyPost_ret (v := v) (by
    have key : ∀ F : ResultVar → Sem Value, (F r).run P w = .ok v w → ((do let vs ← #[r].mapM F; pure (if h : vs.size = 1 then vs[0] else .tuple vs) : Sem Value)).run P w = .ok v w := fun F h1 => by simp [h1]
    unfold results
    rw [hr]
    exact key (rvSem a.tmps) (rv_run h hF hS)) hF.defers ⟨v, u, rfl, adv_back hg hS, hp⟩
theorem ret2 {r s : ResultVar} (hr : fn.results = #[r, s]) (v x : Value) (h : RV P g bx r v) (k : RV P g bx s x) (hg : Gr w0.heap.size u0 u) (hp : Post u (.tuple #[v, x])) : PN n w0 (bodyPost P fn (Back w0 u0 Post) .ret) g bx rw u := fun a w hF hS =>
  bodyPost_ret (v := .tuple #[v, x]) (by
    have key : ∀ F : ResultVar → Sem Value, (F r).run P w = .ok v w → (F s).run P w = .ok x w → ((do let vs ← #[r, s].mapM F; pure (if h : vs.size = 1 then vs[0] else .tuple vs) : Sem Value)).run P w = .ok (.tuple #[v, x]) w := fun F h1 h2 => by simp [h1, h2]
    unfold results
    rw [hr]
    exact key (rvSem a.tmps) (rv_run h hF hS) (rv_run k hF hS)) hF.defers ⟨_, u, rfl, adv_back hg hS, hp⟩
theorem ret3 {r s t : ResultVar} (hr : fn.results = #[r, s, t]) (v x y : Value) (h : RV P g bx r v) (k : RV P g bx s x) (l : RV P g bx t y) (hg : Gr w0.heap.size u0 u) (hp : Post u (.tuple #[v, x, y])) : PN n w0 (bodyPost P fn (Back w0 u0 Post) .ret) g bx rw u := fun a w hF hS =>
  bodyPost_ret (v := .tuple #[v, x, y]) (by
    have key : ∀ F : ResultVar → Sem Value, (F r).run P w = .ok v w → (F s).run P w = .ok x w → (F t).run P w = .ok y w → ((do let vs ← #[r, s, t].mapM F; pure (if h : vs.size = 1 then vs[0] else .tuple vs) : Sem Value)).run P w = .ok (.tuple #[v, x, y]) w := fun F h1 h2 h3 => by simp [h1, h2, h3]
    unfold results
    rw [hr]
    exact key (rvSem a.tmps) (rv_run h hF hS) (rv_run k hF hS) (rv_run l hF hS)) hF.defers ⟨_, u, rfl, adv_back hg hS, hp⟩
theorem tri_ret (h : PN n w0 (Q .ret) g bx rw u) : Tri P .ret Q n w0 g bx rw u := fun a w hF hS => wp_ret (h a w hF hS)
def argl : Nat → List Value → List (Nat × Value)
  | _, [] => []
  | i, v :: r => (i, v) :: argl (i + 1) r
theorem lk_argl : ∀ (l : List Value) (i t : Nat) (v : Value), lk (argl i l) t = some v → i ≤ t ∧ l[t - i]? = some v
  | [], _, _, _, h => by cases h
  | x :: r, i, t, v, h => by
    simp only [argl, lk] at h
    split at h
    · rename_i e
      have : i = t := by simpa using e
      subst this
      exact ⟨Nat.le_refl _, by simpa using h⟩
    · obtain ⟨h1, h2⟩ := lk_argl r (i + 1) t v h
      refine ⟨by omega, ?_⟩
      rw [show t - i = (t - (i + 1)) + 1 by omega]
      simpa using h2
theorem fn_of {f : FuncId} {c : Code} {args : List Value} (hf : P.funcs[f]? = some fn) (hb : fn.body = some c) (ha : args.length ≤ fn.ntmps)
    (h : ∀ w0, Sub u w0 → Tri P c (bodyPost P fn (Back w0 u Post)) fn.ntmps w0 (argl 0 args) [] [] u) : Fn P f args.toArray u Post := fun w hs =>
  calls_of_wp hf hb (h w hs _ w ⟨rfl, by simp; omega, fun t v hv => by
    obtain ⟨_, h2⟩ := lk_argl _ _ _ _ hv
    rw [Nat.sub_zero] at h2
    have : t < args.length := (List.getElem?_eq_some_iff.1 h2).1
    simp [Array.getElem?_append, this, h2]
    simpa [this] using h2⟩ ⟨Below.refl _ _, hs, (fun i j b c hi => by simp at hi), (fun i b hi => by simp at hi), (fun i r hi => by simp at hi), (fun i j r b hi => by simp at hi), (fun i j r s k hi => by simp at hi)⟩)

/-! ### operations -/
def aggOf : TypeDesc → Bool
  | .struct _ | .array _ _ => true
  | _ => false
/-- A type: of several cells? of how many? -/
def Ty (P : Program) (ty : TypeId) (b : Bool) (m : Nat) : Prop := (P.underlying ty).map aggOf = some b ∧ (P.info? ty).map (·.size) = some m
theorem run_isAgg {ty : TypeId} {b : Bool} {m : Nat} (h : Ty P ty b m) (w : World) : (isAgg ty).run P w = .ok b w := by
  obtain ⟨d, h1, h2⟩ := Option.map_eq_some_iff.1 h.1
  unfold isAgg
  rw [Sem.run_bind, run_underlying h1 w]
  subst h2
  cases d <;> simp [aggOf]
theorem run_sizeOf {ty : TypeId} {b : Bool} {m : Nat} (h : Ty P ty b m) (w : World) : (sizeOf ty).run P w = .ok m w := by
  obtain ⟨d, h1, h2⟩ := Option.map_eq_some_iff.1 h.2
  simp [sizeOf, typeInfo, h1, h2]
/-- Cells as a value of a type. -/
def asVal (b : Bool) (vs : List Value) : Value := if b then .agg vs.toArray else vs.headD undef
theorem add_none (p o j : Nat) : (⟨p, o, none⟩ : Addr).add j = ⟨p, o + j, none⟩ := by unfold Addr.add; split <;> simp_all
theorem run_loadAt {ty : TypeId} {b : Bool} {ad : Addr} {vs : List Value} {w : World} (h : Ty P ty b vs.length) (hc : ∀ j v, vs[j]? = some v → w.cell? (ad.add j) = some v) (h1 : b = false → vs.length = 1) :
    (loadVar ty ad).run P w = .ok (asVal b vs) w := by
  have hl := run_loadCells_list (P := P) w ad vs hc
  unfold loadVar
  rw [Sem.run_bind, run_isAgg h, Result.andThen_ok]
  cases b with
  | true => simp [run_sizeOf h, hl, asVal]
  | false =>
    have h2 := h1 rfl
    match vs, h2, hc with
    | [v], _, hc =>
      have := hc 0 v (by simp)
      have e : ad.add 0 = ad := by unfold Addr.add; split <;> simp_all
      rw [e] at this
      simp [asVal, this]
theorem box_cells {w : World} {p o : Nat} {cs : List Value} {t : TypeId} {fr : Nat × Nat} (hb : w.heap[p]? = some (.cells cs.toArray t fr)) (m : Nat) : ∀ j v, ((cs.drop o).take m)[j]? = some v → w.cell? ((⟨p, o, none⟩ : Addr).add j) = some v := fun j v hv => by
  rw [add_none, cell_of_row w p (o + j) _ t fr hb]
  simp only [List.getElem?_take, List.getElem?_drop] at hv
  split at hv
  · simpa using hv
  · cases hv
/-- A load out of a box. -/
theorem ob_load {o : Oper} {ρ : Operand → Value} {w : World} {ty : TypeId} {x : Operand} {p off m : Nat} {b : Bool} {cs : List Value} {t : TypeId} {c : Value} (ho : o.op = .load ty x) (hx : ρ x = .pointer (some ⟨p, off, none⟩)) (hb : w.heap[p]? = some (.cells cs.toArray t (0, 0)))
    (hT : Ty P ty b m) (hl : ((cs.drop off).take m).length = m) (h1 : (b || m == 1) = true) (hc : asVal b ((cs.drop off).take m) = c) : (execOp ρ o).run P w = .ok (.value c) w := by
  have := run_loadAt (w := w) (ad := ⟨p, off, none⟩) (vs := (cs.drop off).take m) (by rw [hl]; exact hT) (box_cells hb m) (by rw [hl]; intro e; subst e; simpa using h1)
  rw [hc] at this
  simp [execOp, ho, hx, Instr.loadAt, Instr.sureAddr, this]
theorem rv_cell {a : Nat} {ty : TypeId} (k p m : Nat) (t : TypeId) {b : Bool} (cs : List Value) {v : Value} (h1 : lk g a = some (.pointer (some ⟨p, 0, none⟩))) (h2 : bx[k]? = some ⟨p, t, cs⟩) (hT : Ty P ty b m) (hl : cs.length = m) (hb : (b || m == 1) = true) (hv : asVal b cs = v) : RV P g bx (.cell a ty) v :=
  ⟨k, p, t, cs, h1, h2, fun w hw => by
    have := run_loadAt (P := P) (w := w) (ad := ⟨p, 0, none⟩) (vs := cs) (by rw [hl]; exact hT) (fun j v hv => by have := box_cells (o := 0) hw cs.length j v (by simpa using hv); exact this) (by rw [hl]; intro e; subst e; simpa using hb)
    rw [hv] at this
    exact this⟩
/-- A value of so many cells. -/
def Flat (v : Value) (m : Nat) : Prop := v.cells.toList.length = m ∧ v.cells.toList.all Value.oneCell' = true
/-- A store into a box. -/
theorem ob_store {o : Oper} {ρ : Operand → Value} {w : World} {ty : TypeId} {x y : Operand} {p off m : Nat} {b : Bool} {cs : List Value} {t : TypeId} {v : Value} (ho : o.op = .store ty x y) (hx : ρ x = .pointer (some ⟨p, off, none⟩)) (hy : ρ y = v) (hb : w.heap[p]? = some (.cells cs.toArray t (0, 0)))
    (hT : Ty P ty b m) (hv : Flat v m) (hr : Nat.ble (off + m) cs.length = true) : (execOp ρ o).run P w = .ok .skip (w.setRow p (patch cs off v.cells.toList).toArray) := by
  obtain ⟨hl, h1⟩ := hv
  have hr' := Nat.le_of_ble_eq_true hr
  have := run_storeCells_at P p off t v.cells.toList 0 cs.toArray w hb (by simpa [hl] using hr') (fun u hu => List.all_eq_true.1 h1 u hu)
  have hs : v.cells.size = m := by simpa using hl
  simp only [Nat.add_zero] at this
  simp [execOp, ho, hx, hy, Instr.storeAt, Instr.sureAddr, storeVar, run_sizeOf hT, hs, this, patch]
theorem ob_sto {R : Reg} {i k : Nat} {f : Nat → Value} {G : Box → Prop} (b' : Box) (h : R.visb i f k = some b') (hG : G b') : ∀ b, R.visb i f k = some b → G b := fun b hb => by
  rw [h] at hb
  cases hb
  exact hG
theorem blk_self {v : Value} (h : ∃ p, v = .pointer (some ⟨p, 0, none⟩)) : v = .pointer (some ⟨blkOf v, 0, none⟩) := by
  obtain ⟨p, rfl⟩ := h; rfl
theorem fun_upd {f : Nat → Value} {i : Nat} {x : Value} (h : f i = x) : f = upd f i x := by
  funext k
  unfold upd
  by_cases hk : k = i
  · subst hk; simp [h]
  · simp [hk]
theorem ob_ext {o : Oper} {ρ : Operand → Value} {w : World} {x : Operand} {i : Nat} {vs : Array Value} {v : Value} (ho : o.op = .extract x i) (hx : ρ x = .tuple vs) (hv : vs[i]? = some v) : (execOp ρ o).run P w = .ok (.value v) w := by
  simp [execOp, ho, hx, Instr.extract, hv]
def Tup2 (S T : World → Value → Prop) (u : World) (r : Value) : Prop := ∃ a b, r = .tuple #[a, b] ∧ S u a ∧ T u b
def Tup3 (S T V : World → Value → Prop) (u : World) (r : Value) : Prop := ∃ a b c, r = .tuple #[a, b, c] ∧ S u a ∧ T u b ∧ V u c
def Mono (S : World → Value → Prop) : Prop := ∀ u u' v, Sub u u' → S u v → S u' v
theorem Tup2.mono {S T : World → Value → Prop} (h : Mono S) (k : Mono T) : Mono (Tup2 S T) := fun u u' v hs ⟨a, b, e, h1, h2⟩ => ⟨a, b, e, h _ _ _ hs h1, k _ _ _ hs h2⟩
theorem Tup3.mono {S T V : World → Value → Prop} (h : Mono S) (k : Mono T) (l : Mono V) : Mono (Tup3 S T V) := fun u u' v hs ⟨a, b, c, e, h1, h2, h3⟩ => ⟨a, b, c, e, h _ _ _ hs h1, k _ _ _ hs h2, l _ _ _ hs h3⟩
/-- A value that is known. -/
def Is (c : Value) (_ : World) (v : Value) : Prop := v = c
theorem Is.mono (c : Value) : Mono (Is c) := fun _ _ _ _ h => h
theorem Fn.mono {f : FuncId} {args : Array Value} {S T : World → Value → Prop} (h : Fn P f args u S) (k : ∀ u' v, S u' v → T u' v) : Fn P f args u T := fun w hs => (h w hs).mono fun e w' ⟨v, u', e', ha, hp⟩ => ⟨v, u', e', ha, k _ _ hp⟩
theorem tri_cast {c : Code} {g' : List (Nat × Value)} {bx' : List Box} {rw' : List Row} (h1 : g = g') (h2 : bx = bx') (h3 : rw = rw') (h : Tri P c Q n w0 g' bx' rw' u) : Tri P c Q n w0 g bx rw u := by
  subst h1; subst h2; subst h3; exact h
end
abbrev pt (b o : Nat) : Value := .pointer (some ⟨b, o, none⟩)
section
variable {P : Program} {R : Reg} {w0 u0 : World} {i : Nat} {o : Oper}
/-- The words for what is shown of the operations, one each. -/
theorem pu {c : Value} (h : ∀ f w, (execOp (R.ev i f) o).run P w = .ok (.value c) w := by intro f w; kernel_rfl) : R.Ob P w0 u0 i o (.con c) := fun f u w _ => .inl (h f w)
theorem al {ty : TypeId} {zs : List Value} (h : ∀ f w, (execOp (R.ev i f) o).run P w = .ok (.value (.pointer (some ⟨w.heap.size, 0, none⟩))) (w.alloc (.cells zs.toArray ty (0, 0))) := by intro f w; kernel_rfl) : R.Ob P w0 u0 i o (.new ty zs) := fun f u w _ => h f w
theorem cp {j : Nat} (h : ∀ f w, (execOp (R.ev i f) o).run P w = .ok (.value (R.val f j)) w := by intro f w; kernel_rfl) : R.Ob P w0 u0 i o (.cpy j) := fun f u w _ => h f w
theorem mv (j : Nat) {S : World → Value → Prop} (hm : Mono S) (h1 : R.dep j i = true := by kernel_rfl) (h2 : R.ks[j]? = some (.opq S) := by kernel_rfl) (h3 : ∀ f w, (execOp (R.ev i f) o).run P w = .ok (.value (f j)) w := by intro f w; kernel_rfl) : R.Ob P w0 u0 i o (.opq S) :=
  ⟨hm, fun f u w hs => .inl ⟨f j, w, u, h3 f w, Adv.refl hs.sub, hs.opq j S h1 h2⟩⟩
theorem ca {S : World → Value → Prop} {fid : FuncId} {args : (Nat → Value) → Array Value} (hm : Mono S) (h : ∀ f u w, R.See w0 u0 i f u w → Fn P fid (args f) u S) (hr : ∀ f w, (execOp (R.ev i f) o).run P w = .ok (.enter fid (args f)) w := by intro f w; kernel_rfl) : R.Ob P w0 u0 i o (.opq S) :=
  ⟨hm, fun f u w hs => .inr ⟨fid, args f, hr f w, h f u w hs⟩⟩
theorem cc {c : Value} {fid : FuncId} {args : (Nat → Value) → Array Value} (h : ∀ f u w, R.See w0 u0 i f u w → Fn P fid (args f) u (Is c)) (hr : ∀ f w, (execOp (R.ev i f) o).run P w = .ok (.enter fid (args f)) w := by intro f w; kernel_rfl) : R.Ob P w0 u0 i o (.con c) :=
  fun f u w hs => .inr ⟨fid, args f, hr f w, h f u w hs⟩
def blkAt (R : Reg) (k : Nat) : Nat := match R.bx[k]? with | some b => b.blk | none => 0
/-- An old box, as it stands when operation i comes up: not written yet. -/
def oldBox (R : Reg) (i k : Nat) : Bool := decide (k < R.bx.length) && match stIx k R.ks 0 with | none => true | some j => R.dep i j || i == j
theorem old_box {f : Nat → Value} {u w : World} (hs : R.See w0 u0 i f u w) {k : Nat} (h : oldBox R i k = true) : ∃ b, R.bx[k]? = some b ∧ R.visb i f k = some b ∧ w.heap[b.blk]? = some (.cells b.cs.toArray b.ty (0, 0)) := by
  unfold oldBox at h
  simp only [Bool.and_eq_true, decide_eq_true_eq] at h
  obtain ⟨h1, h2⟩ := h
  have hb : R.bx[k]? = some R.bx[k] := List.getElem?_eq_getElem h1
  have hv : R.visb i f k = some R.bx[k] := by
    unfold Reg.visb
    rw [if_pos h1, hb]
    simp only
    unfold Reg.visc
    split
    · rfl
    · rename_i j hj
      rw [hj] at h2
      obtain ⟨_, x, hx, _⟩ := stIx_spec _ _ _ _ hj
      rw [Nat.sub_zero] at hx
      simp only at h2
      simp only [hx, h2, if_true]
      rfl
  exact ⟨_, hb, hv, hs.box k _ hv⟩
def ldc (R : Reg) (k off m : Nat) (b : Bool) : Option Value := match R.bx[k]? with
  | some x => if Nat.ble (off + m) x.cs.length then some (asVal b ((x.cs.drop off).take m)) else none
  | none => none
theorem ld (k off m : Nat) {b : Bool} {ty : TypeId} {x : Operand} {c : Value} (hT : Ty P ty b m) (h0 : (b || m == 1) = true := by rfl) (h1 : oldBox R i k = true := by kernel_rfl) (ho : o.op = .load ty x := by rfl) (hx : ∀ f, R.ev i f x = pt (blkAt R k) off := by intro f; kernel_rfl) (hc : ldc R k off m b = some c := by kernel_rfl) : R.Ob P w0 u0 i o (.con c) := fun f u w hs => by
  obtain ⟨bx, hb, _, hw⟩ := old_box hs h1
  have hx' := hx f
  unfold blkAt at hx'
  unfold ldc at hc
  rw [hb] at hx' hc
  simp only at hx' hc
  split at hc
  · rename_i hl
    have hl' := Nat.le_of_ble_eq_true hl
    exact .inl (ob_load ho hx' hw hT (by simp; omega) h0 (Option.some.inj hc))
  · cases hc
/-- A store into an old box. -/
theorem st (k off m : Nat) {b : Bool} {ty : TypeId} {x y : Operand} {s : Src} (hT : Ty P ty b m) (hf : ∀ f u w, R.See w0 u0 i f u w → Flat (R.srcv f s) m) (h1 : oldBox R i k = true := by kernel_rfl) (ho : o.op = .store ty x y := by rfl) (hx : ∀ f, R.ev i f x = pt (blkAt R k) off := by intro f; kernel_rfl) (hy : ∀ f, R.ev i f y = R.srcv f s := by intro f; kernel_rfl)
    (hl : (match R.bx[k]? with | some b => Nat.ble (off + m) b.cs.length | none => false) = true := by kernel_rfl) : R.Ob P w0 u0 i o (.sto ⟨k, off, s⟩) := fun f u w hs => by
  obtain ⟨bx, hb, hv, hw⟩ := old_box hs h1
  have hx' := hx f
  unfold blkAt at hx'
  rw [hb] at hx' hl
  exact ob_sto bx hv (ob_store ho hx' (hy f) hw hT (hf f u w hs) hl)
/-- A store into a box that was made in the region, by operation j. -/
theorem sn (j m : Nat) {b : Bool} {ty t : TypeId} {x y : Operand} {s : Src} {zs : List Value} (hT : Ty P ty b m) (hf : ∀ f u w, R.See w0 u0 i f u w → Flat (R.srcv f s) m) (hd : R.dep j i = true := by kernel_rfl) (hk : R.ks[j]? = some (.new t zs) := by rfl) (hv : ∀ f, R.visb i f (R.bx.length + j) = some ⟨blkOf (f j), t, zs⟩ := by intro f; kernel_rfl) (ho : o.op = .store ty x y := by rfl) (hx : ∀ f, R.ev i f x = f j := by intro f; kernel_rfl) (hy : ∀ f, R.ev i f y = R.srcv f s := by intro f; kernel_rfl)
    (hl : Nat.ble (0 + m) zs.length = true := by kernel_rfl) : R.Ob P w0 u0 i o (.sto ⟨R.bx.length + j, 0, s⟩) := fun f u w hs =>
  ob_sto _ (hv f) (ob_store ho ((hx f).trans (blk_self (hs.new j t zs hd hk))) (hy f) (hs.box _ _ (hv f)) hT (hf f u w hs) hl)
theorem kn {f : Nat → Value} {s : Src} {v : Value} {m : Nat} (h : R.srcv f s = v) (hv : Flat v m) : Flat (R.srcv f s) m := by rw [h]; exact hv
/-- Out of a tuple. -/
theorem ex2a (j : Nat) {S T : World → Value → Prop} (hm : Mono S) {x : Operand} (h1 : R.dep j i = true := by kernel_rfl) (h2 : R.ks[j]? = some (.opq (Tup2 S T)) := by rfl) (ho : o.op = .extract x 0 := by rfl) (hx : ∀ f, R.ev i f x = f j := by intro f; kernel_rfl) : R.Ob P w0 u0 i o (.opq S) :=
  ⟨hm, fun f u w hs => by obtain ⟨a, b, e, p, q⟩ := hs.opq j _ h1 h2; exact .inl ⟨a, w, u, ob_ext ho ((hx f).trans e) rfl, Adv.refl hs.sub, p⟩⟩
theorem ex2b (j : Nat) {S T : World → Value → Prop} (hm : Mono T) {x : Operand} (h1 : R.dep j i = true := by kernel_rfl) (h2 : R.ks[j]? = some (.opq (Tup2 S T)) := by rfl) (ho : o.op = .extract x 1 := by rfl) (hx : ∀ f, R.ev i f x = f j := by intro f; kernel_rfl) : R.Ob P w0 u0 i o (.opq T) :=
  ⟨hm, fun f u w hs => by obtain ⟨a, b, e, p, q⟩ := hs.opq j _ h1 h2; exact .inl ⟨b, w, u, ob_ext ho ((hx f).trans e) rfl, Adv.refl hs.sub, q⟩⟩
theorem ex2c (j : Nat) {S : World → Value → Prop} {c : Value} {x : Operand} (h1 : R.dep j i = true := by kernel_rfl) (h2 : R.ks[j]? = some (.opq (Tup2 S (Is c))) := by rfl) (ho : o.op = .extract x 1 := by rfl) (hx : ∀ f, R.ev i f x = f j := by intro f; kernel_rfl) : R.Ob P w0 u0 i o (.con c) :=
  fun f u w hs => by obtain ⟨a, b, e, p, q⟩ := hs.opq j _ h1 h2; exact .inl (ob_ext ho ((hx f).trans e) (by rw [show b = c from q]; rfl))
theorem ex3a (j : Nat) {S T V : World → Value → Prop} (hm : Mono S) {x : Operand} (h1 : R.dep j i = true := by kernel_rfl) (h2 : R.ks[j]? = some (.opq (Tup3 S T V)) := by rfl) (ho : o.op = .extract x 0 := by rfl) (hx : ∀ f, R.ev i f x = f j := by intro f; kernel_rfl) : R.Ob P w0 u0 i o (.opq S) :=
  ⟨hm, fun f u w hs => by obtain ⟨a, b, c, e, p, q, r⟩ := hs.opq j _ h1 h2; exact .inl ⟨a, w, u, ob_ext ho ((hx f).trans e) rfl, Adv.refl hs.sub, p⟩⟩
theorem ex3b (j : Nat) {S T V : World → Value → Prop} (hm : Mono T) {x : Operand} (h1 : R.dep j i = true := by kernel_rfl) (h2 : R.ks[j]? = some (.opq (Tup3 S T V)) := by rfl) (ho : o.op = .extract x 1 := by rfl) (hx : ∀ f, R.ev i f x = f j := by intro f; kernel_rfl) : R.Ob P w0 u0 i o (.opq T) :=
  ⟨hm, fun f u w hs => by obtain ⟨a, b, c, e, p, q, r⟩ := hs.opq j _ h1 h2; exact .inl ⟨b, w, u, ob_ext ho ((hx f).trans e) rfl, Adv.refl hs.sub, q⟩⟩
theorem ex3c (j : Nat) {S T : World → Value → Prop} {d : Value} {x : Operand} (h1 : R.dep j i = true := by kernel_rfl) (h2 : R.ks[j]? = some (.opq (Tup3 S T (Is d))) := by rfl) (ho : o.op = .extract x 2 := by rfl) (hx : ∀ f, R.ev i f x = f j := by intro f; kernel_rfl) : R.Ob P w0 u0 i o (.con d) :=
  fun f u w hs => by obtain ⟨a, b, c, e, p, q, r⟩ := hs.opq j _ h1 h2; exact .inl (ob_ext ho ((hx f).trans e) (by rw [show c = d from r]; rfl))
end
end Go.Proofs.Ytaagioghkicdkaa
