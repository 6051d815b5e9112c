/- A logic for regions whose order is open: each operation is shown once, whatever came before it. -/
import Derived.OrdersHeld
import Derived.Laws.CopyRow
import Derived.Laws.Rows
import Derived.Below
import Derived.KernelRfl
import Derived.Maps.AppendAt
set_option linter.unusedVariables false
set_option linter.unusedSimpArgs false
namespace Go.Proofs.Ytaagioghkicdkaa
open Go.RowKit

/-- What u holds w holds. -/
def Sub (u w : World) : Prop := ∀ a v, u.cell? a = some v → w.cell? a = some v
theorem Sub.refl (u : World) : Sub u u := fun _ _ h => h
theorem Sub.trans {a b c : World} (h : Sub a b) (k : Sub b c) : Sub a c := fun p v hp => k p v (h p v hp)
def Dead (u : World) (p : Nat) : Prop := ∀ a : Addr, a.block = p → u.cell? a = none
/-- One step of a call: what was there stays; what is known for good grows by new blocks alone. -/
def Adv (w u w' u' : World) : Prop := Below w.heap.size w w' ∧ Sub u u' ∧ Sub u' w' ∧ ∀ p, p < w.heap.size → Dead u p → Dead u' p
theorem Adv.refl {u w : World} (h : Sub u w) : Adv w u w u := ⟨Below.refl _ _, Sub.refl _, h, fun _ _ h => h⟩
/-- A function that leaves what it found. -/
def Fn (P : Program) (f : FuncId) (args : Array Value) (u : World) (Post : World → Value → Prop) : Prop :=
  ∀ w, Sub u w → Calls P f args w fun e w' => ∃ v u', e = .returned v ∧ Adv w u w' u' ∧ Post u' v

structure Box where
  blk : Nat
  ty : TypeId
  cs : List Value
/-- A row of the call's own: its slice, its elements' type and size, how many, what its cells say. -/
structure Row where
  v : Value
  e : TypeId
  sz : Nat
  n : Nat
  S : World → List Value → Prop
  mono : ∀ u u' xs, Sub u u' → S u xs → S u' xs
structure StF (w0 : World) (bx : Nat → Option Box) (rw : Nat → Option Row) (u w : World) : Prop where
  below : Below w0.heap.size w0 w
  sub : Sub u w
  inj : ∀ i j b c, bx i = some b → bx j = some c → b.blk = c.blk → i = j
  box : ∀ i b, bx i = some b → w0.heap.size ≤ b.blk ∧ Dead u b.blk ∧ w.heap[b.blk]? = some (.cells b.cs.toArray b.ty (0, 0))
  row : ∀ i r, rw i = some r → (∃ xs, w.ownsRow w0.heap.size r.e r.sz r.v r.n xs ∧ r.S u xs) ∧ ∀ k, r.v.ownBlock = some k → Dead u k
  rbx : ∀ i j r b, rw i = some r → bx j = some b → r.v.ownBlock ≠ some b.blk
  rrw : ∀ i j r s k, rw i = some r → rw j = some s → r.v.ownBlock = some k → s.v.ownBlock = some k → i = j
/-- The state between two regions. -/
def St (w0 : World) (bx : List Box) (rw : List Row) (u w : World) : Prop := StF w0 (fun k => bx[k]?) (fun k => rw[k]?) u w

theorem heap_lt {w : World} {g : Nat} {o : Obj} (h : w.heap[g]? = some o) : g < w.heap.size := (Array.getElem?_eq_some_iff.1 h).1
theorem cell_none {w : World} {a : Addr} (h : w.heap.size ≤ a.block) : w.cell? a = none := by
  unfold World.cell?
  rw [Array.getElem?_eq_none h]
theorem rowMove {w w1 : World} {base : Nat} {e : TypeId} {size n : Nat} {v : Value} {xs : List Value} (h : w.ownsRow base e size v n xs) (hm : ∀ k, v.ownBlock = some k → w1.heap[k]? = w.heap[k]?) : w1.ownsRow base e size v n xs := by
  obtain ⟨h1, h2⟩ := h
  refine ⟨h1, ?_⟩
  rcases h2 with h2 | ⟨g, cap, cur, rfl, hg, hh, r⟩
  · exact .inl h2
  · exact .inr ⟨g, cap, cur, rfl, hg, (hm g (by simp [Value.ownBlock])).trans hh, r⟩
theorem dead_new {u w : World} (h : Sub u w) {p : Nat} (hp : w.heap.size ≤ p) : Dead u p := fun a ha => by
  cases hc : u.cell? a with
  | none => rfl
  | some v =>
    have := h a v hc
    rw [cell_none (by omega)] at this
    cases this
section
variable {w0 u w u' w' : World} {bx bx' : Nat → Option Box} {rw rw' : Nat → Option Row}
theorem StF.adv (h : StF w0 bx rw u w) (ha : Adv w u w' u') : StF w0 bx rw u' w' := by
  obtain ⟨hb, h1, h2, h3⟩ := ha
  refine ⟨h.below.trans (hb.mono h.below.size), h2, h.inj, fun i b hi => ?_, fun i r hi => ?_, h.rbx, h.rrw⟩
  · obtain ⟨k1, k2, k3⟩ := h.box i b hi
    exact ⟨k1, h3 _ (heap_lt k3) k2, (hb.block _ (heap_lt k3)).trans k3⟩
  · obtain ⟨⟨xs, k1, k2⟩, k3⟩ := h.row i r hi
    exact ⟨⟨xs, rowMove k1 (fun k hk => hb.block k (k1.lt k hk).2), r.mono _ _ _ h1 k2⟩, fun k hk => h3 k (k1.lt k hk).2 (k3 k hk)⟩
theorem StF.drew (h : StF w0 bx rw u w) : StF w0 bx rw u { w with drawn := w.drawn + 1 } :=
  ⟨h.below.trans ⟨rfl, rfl, rfl, Nat.le_refl _, fun _ _ => rfl⟩, h.sub, h.inj, h.box, h.row, h.rbx, h.rrw⟩
theorem StF.congr (h : StF w0 bx rw u w) (he : ∀ i, bx' i = bx i) (hr : ∀ i, rw' i = rw i) : StF w0 bx' rw' u w :=
  (funext he : bx' = bx) ▸ (funext hr : rw' = rw) ▸ h
theorem StF.blt (h : StF w0 bx rw u w) {j : Nat} {b : Box} (hb : bx j = some b) : b.blk < w.heap.size := heap_lt (h.box j b hb).2.2
theorem StF.rlt (h : StF w0 bx rw u w) {j k : Nat} {r : Row} (hr : rw j = some r) (hk : r.v.ownBlock = some k) : w0.heap.size ≤ k ∧ k < w.heap.size := by
  obtain ⟨⟨xs, k1, _⟩, _⟩ := h.row j r hr
  exact k1.lt k hk
theorem StF.alloc (h : StF w0 bx rw u w) (i : Nat) (ty : TypeId) (zs : List Value) (hi : bx' i = some ⟨w.heap.size, ty, zs⟩) (he : ∀ j, j ≠ i → bx' j = bx j) :
    StF w0 bx' rw u (w.alloc (.cells zs.toArray ty (0, 0))) := by
  have hold : ∀ j b, j ≠ i → bx' j = some b → b.blk < w.heap.size := fun j b hj hb => h.blt (by rw [← he j hj]; exact hb)
  refine ⟨h.below.alloc h.below.size _, fun a v hv => ?_, fun j k b c hj hk e => ?_, fun j b hj => ?_, fun j r hj => ?_, fun j k r b hj hk => ?_, h.rrw⟩
  · have h1 := h.sub a v hv
    rw [World.cell?_alloc_lt]
    · exact h1
    · apply Nat.lt_of_not_le
      intro hle
      rw [cell_none hle] at h1
      cases h1
  · by_cases h1 : j = i
    · by_cases h2 : k = i
      · omega
      · subst h1
        rw [hi] at hj
        cases hj
        have := hold k c h2 hk
        simp only at e
        omega
    · by_cases h2 : k = i
      · subst h2
        rw [hi] at hk
        cases hk
        have := hold j b h1 hj
        simp only at e
        omega
      · rw [he j h1] at hj
        rw [he k h2] at hk
        exact h.inj j k b c hj hk e
  · by_cases h1 : j = i
    · subst h1
      rw [hi] at hj
      cases hj
      refine ⟨h.below.size, dead_new h.sub (Nat.le_refl _), ?_⟩
      show (w.heap.push _)[w.heap.size]? = _
      rw [Array.getElem?_push, if_pos rfl]
    · have hlt := hold j b h1 hj
      rw [he j h1] at hj
      obtain ⟨k1, k2, k3⟩ := h.box j b hj
      exact ⟨k1, k2, by rw [Below.heap_alloc _ _ _ hlt]; exact k3⟩
  · obtain ⟨⟨xs, k1, k2⟩, k3⟩ := h.row j r hj
    exact ⟨⟨xs, k1.alloc _, k2⟩, k3⟩
  · by_cases h1 : k = i
    · subst h1
      rw [hi] at hk
      cases hk
      intro e
      have := (h.rlt hj e).2
      simp only at this
      omega
    · rw [he k h1] at hk
      exact h.rbx j k r b hj hk
theorem StF.store (h : StF w0 bx rw u w) (i : Nat) (b : Box) (cs : List Value) (hb : bx i = some b) (hi : bx' i = some ⟨b.blk, b.ty, cs⟩) (he : ∀ j, j ≠ i → bx' j = bx j) :
    StF w0 bx' rw u (w.setRow b.blk cs.toArray) := by
  obtain ⟨k1, k2, k3⟩ := h.box i b hb
  have hne : ∀ j c, j ≠ i → bx j = some c → c.blk ≠ b.blk := fun j c hj hc e => hj (h.inj j i c b hc hb e)
  have aux : ∀ j c, bx' j = some c → ∃ c', bx j = some c' ∧ c'.blk = c.blk := fun j c hj => by
    by_cases h1 : j = i
    · subst h1; rw [hi] at hj; cases hj; exact ⟨b, hb, rfl⟩
    · rw [he j h1] at hj; exact ⟨c, hj, rfl⟩
  refine ⟨h.below.trans ⟨rfl, rfl, rfl, by simp, fun k hk => setRow_other _ _ _ _ (by omega)⟩, fun a v hv => ?_, fun j k c d hj hk e => ?_, fun j c hj => ?_, fun j r hj => ?_, fun j k r c hj hk => ?_, h.rrw⟩
  · rw [cell_setRow_other]
    · exact h.sub a v hv
    · intro e
      rw [k2 a e] at hv
      cases hv
  · obtain ⟨c', hc, e1⟩ := aux j c hj
    obtain ⟨d', hd, e2⟩ := aux k d hk
    exact h.inj j k c' d' hc hd (by rw [e1, e2, e])
  · by_cases h1 : j = i
    · subst h1
      rw [hi] at hj
      cases hj
      exact ⟨k1, k2, setRow_heap _ _ _ _ _ _ k3⟩
    · rw [he j h1] at hj
      obtain ⟨l1, l2, l3⟩ := h.box j c hj
      exact ⟨l1, l2, by rw [setRow_other _ _ _ _ (hne j c h1 hj)]; exact l3⟩
  · obtain ⟨⟨xs, m1, m2⟩, m3⟩ := h.row j r hj
    exact ⟨⟨xs, rowMove m1 (fun k hk => setRow_other _ _ _ _ (fun e => h.rbx j i r b hj hb (by rw [hk, e]))), m2⟩, m3⟩
  · obtain ⟨c', hc, e1⟩ := aux k c hk
    rw [← e1]
    exact h.rbx j k r c' hj hc
/-- A row is written to, grows or is made: r is its name behind, v0 its slice ahead. -/
theorem StF.grow (h : StF w0 bx rw u w) (i : Nat) (v0 : Value) (r : Row) (h0 : (∃ r0, rw i = some r0 ∧ r0.v = v0) ∨ v0.ownBlock = none) (hi : rw' i = some r) (he : ∀ j, j ≠ i → rw' j = rw j) (hg : w.grownBy w' v0.ownBlock) (ho : ∃ xs, w'.ownsRow w0.heap.size r.e r.sz r.v r.n xs ∧ r.S u xs)
    (hv : r.v.ownBlock = v0.ownBlock ∨ r.v.ownBlock = some w.heap.size) : StF w0 bx rw' u w' := by
  have hk0 : ∀ k, v0.ownBlock = some k → (w0.heap.size ≤ k ∧ k < w.heap.size) ∧ Dead u k ∧ (∀ j b, bx j = some b → k ≠ b.blk) ∧ ∀ j s, j ≠ i → rw j = some s → s.v.ownBlock ≠ some k := fun k hk => by
    rcases h0 with ⟨r0, hr0, e⟩ | h0
    · subst e
      exact ⟨h.rlt hr0 hk, (h.row i r0 hr0).2 k hk, fun j b hb e => h.rbx i j r0 b hr0 hb (by rw [hk, e]), fun j s hj hs hsk => hj (h.rrw j i s r0 k hs hr0 hsk hk)⟩
    · rw [h0] at hk; cases hk
  refine ⟨h.below.grown hg h.below.size (fun k hk => (hk0 k hk).1.1), fun a v ha => ?_, h.inj, fun j b hj => ?_, fun j s hj => ?_, fun j k s b hj hb => ?_, fun j k s t p hj hk hs ht => ?_⟩
  · exact hg.cell (h.sub a v ha) (fun e => by
      have := (hk0 _ e.symm).2.1 a rfl
      rw [this] at ha; cases ha)
  · obtain ⟨k1, k2, k3⟩ := h.box j b hj
    exact ⟨k1, k2, (hg.block _ (heap_lt k3) (fun e => (hk0 _ e.symm).2.2.1 j b hj rfl)).trans k3⟩
  · by_cases h1 : j = i
    · subst h1
      rw [hi] at hj
      cases hj
      refine ⟨ho, fun k hk => ?_⟩
      rcases hv with hv | hv
      · rw [hv] at hk; exact (hk0 k hk).2.1
      · rw [hv] at hk; cases hk; exact dead_new h.sub (Nat.le_refl _)
    · rw [he j h1] at hj
      obtain ⟨⟨xs, m1, m2⟩, m3⟩ := h.row j s hj
      exact ⟨⟨xs, rowMove m1 (fun k hk => hg.block k (m1.lt k hk).2 (fun e => (hk0 k e.symm).2.2.2 j s h1 hj hk)), m2⟩, m3⟩
  · by_cases h1 : j = i
    · subst h1
      rw [hi] at hj
      cases hj
      intro e
      rcases hv with hv | hv
      · rw [hv] at e; exact (hk0 _ e).2.2.1 k b hb rfl
      · rw [hv] at e
        have := h.blt hb
        have := Option.some.inj e
        omega
    · rw [he j h1] at hj
      exact h.rbx j k s b hj hb
  · have fresh : ∀ q t, q ≠ i → rw q = some t → t.v.ownBlock = some p → r.v.ownBlock ≠ some p := fun q t hq ht hp e => by
      rcases hv with hv | hv
      · rw [hv] at e; exact (hk0 p e).2.2.2 q t hq ht hp
      · rw [hv] at e
        have := (h.rlt ht hp).2
        have := Option.some.inj e
        omega
    by_cases h1 : j = i
    · by_cases h2 : k = i
      · omega
      · subst h1
        rw [hi] at hj
        cases hj
        rw [he k h2] at hk
        exact absurd hs (fresh k t h2 hk ht)
    · by_cases h2 : k = i
      · subst h2
        rw [hi] at hk
        cases hk
        rw [he j h1] at hj
        exact absurd ht (fresh j s h1 hj hs)
      · rw [he j h1] at hj
        rw [he k h2] at hk
        exact h.rrw j k s t p hj hk hs ht
end

/-! ### what a region's operations are said to do -/
inductive Src where
  | op (i : Nat)
  | lit (v : Value)
/-- A store: into box k, from cell off on. -/
structure SO where
  k : Nat
  off : Nat
  s : Src
inductive K where
  | con (c : Value)
  | opq (S : World → Value → Prop)
  | new (ty : TypeId) (zs : List Value)
  | sto (x : SO)
  | rop (k : Nat) (r : Value → Row)
  | rst (k : Nat) (r : Row)
  | mk (r : Value → Row)
  | cpy (j : Nat)
structure Reg where
  ops : Array Oper
  ks : List K
  bx : List Box
  rw : List Row
  g : List (Nat × Value)
  n : Nat

def lk : List (Nat × Value) → Nat → Option Value
  | [], _ => none
  | (k, v) :: r, t => if k == t then some v else lk r t
def idxOf (t : Nat) : List Oper → Nat → Option Nat
  | [], _ => none
  | o :: r, i => if o.dst == some t then some i else idxOf t r (i + 1)
def stIx (k : Nat) : List K → Nat → Option Nat
  | [], _ => none
  | .sto x :: r, i => if x.k == k then some i else stIx k r (i + 1)
  | _ :: r, i => stIx k r (i + 1)
def rowIx (k : Nat) : List K → Nat → Option Nat
  | [], _ => none
  | .rop j _ :: r, i => if j == k then some i else rowIx k r (i + 1)
  | .rst j _ :: r, i => if j == k then some i else rowIx k r (i + 1)
  | _ :: r, i => rowIx k r (i + 1)
def blkOf : Value → Nat
  | .pointer (some a) => a.block
  | _ => 0
def upd (f : Nat → Value) (i : Nat) (v : Value) : Nat → Value := fun k => if k == i then v else f k
theorem upd_same (f : Nat → Value) (i : Nat) (v : Value) : upd f i v i = v := by simp [upd]
theorem upd_ne (f : Nat → Value) {i k : Nat} (v : Value) (h : k ≠ i) : upd f i v k = f k := by simp [upd, h]
def patch (cs : List Value) (off : Nat) (vs : List Value) : List Value := cs.take off ++ vs ++ cs.drop (off + vs.length)
def isUndef : Value → Bool
  | .tuple a => a.size == 0
  | _ => false
theorem isUndef_eq {v : Value} (h : isUndef v = true) : v = undef := by
  cases v <;> simp_all [isUndef, undef]

namespace Reg
variable (R : Reg)
def dep (i j : Nat) : Bool := match R.ops[j]? with
  | some o => o.after.toList.any fun e => Region.binds .any e && e.on == i
  | none => false
def val (f : Nat → Value) (i : Nat) : Value := match R.ks[i]? with
  | some (.con c) => c
  | some (.sto _) | some (.rst _ _) => undef
  | some (.cpy j) => match R.ks[j]? with
    | some (.con c) => c
    | _ => f j
  | _ => f i
def srcv (f : Nat → Value) : Src → Value
  | .op i => R.val f i
  | .lit v => v
def app (d : Nat → Bool) (f : Nat → Value) (k : Nat) (cs : List Value) : List Value := match stIx k R.ks 0 with
  | none => cs
  | some j => match R.ks[j]? with
    | some (.sto x) => if d j then patch cs x.off (R.srcv f x.s).cells.toList else cs
    | _ => cs
def bxf (d : Nat → Bool) (f : Nat → Value) (k : Nat) : Option Box :=
  if k < R.bx.length then (R.bx[k]?).map fun b => ⟨b.blk, b.ty, R.app d f k b.cs⟩
  else match R.ks[k - R.bx.length]? with
    | some (.new ty zs) => if d (k - R.bx.length) then some ⟨blkOf (f (k - R.bx.length)), ty, R.app d f k zs⟩ else none
    | _ => none
/-- A row as it was at the start, or as it was made. -/
def rwb (d : Nat → Bool) (f : Nat → Value) (k : Nat) : Option Row :=
  if k < R.rw.length then R.rw[k]? else match R.ks[k - R.rw.length]? with
    | some (.mk s) => if d (k - R.rw.length) then some (s (f (k - R.rw.length))) else none
    | _ => none
def rwo (d : Nat → Bool) (f : Nat → Value) (k : Nat) (r : Row) : Row := match rowIx k R.ks 0 with
  | none => r
  | some j => if d j then (match R.ks[j]? with
    | some (.rop _ s) => s (f j)
    | some (.rst _ s) => s
    | _ => r) else r
def rwf (d : Nat → Bool) (f : Nat → Value) (k : Nat) : Option Row := (R.rwb d f k).map (R.rwo d f k)
def gd (d : Nat → Bool) (f : Nat → Value) (t : Nat) : Option Value := match idxOf t R.ops.toList 0 with
  | some i => if d i then some (R.val f i) else lk R.g t
  | none => lk R.g t
def env (i : Nat) (f : Nat → Value) : Operand → Option Value
  | .tmp t => match idxOf t R.ops.toList 0 with
    | some k => if R.dep k i then some (R.val f k) else lk R.g t
    | none => lk R.g t
  | .const v => some v
  | .global g => some (.pointer (some ⟨g, 0, none⟩))
  | .func f => some (.func (.func f) #[] #[])
def ev (i : Nat) (f : Nat → Value) (x : Operand) : Value := (R.env i f x).getD undef
/-- Is the operation carried out? none: it can't be told. -/
def want (o : Oper) (i : Nat) : Option Bool := match o.guard with
  | none => some true
  | some (g, b) => match R.ks[g]? with
    | some (.con (.bool c)) => if R.dep g i && ((R.ops[g]?).bind (·.dst)).isSome then some (c == b) else none
    | _ => none
def visc (i : Nat) (f : Nat → Value) (k : Nat) (l : List Value) : Option (List Value) := match stIx k R.ks 0 with
  | none => some l
  | some j => match R.ks[j]? with
    | some (.sto x) => if R.dep i j || i == j then some l else if R.dep j i then some (patch l x.off (R.srcv f x.s).cells.toList) else none
    | _ => none
def visb (i : Nat) (f : Nat → Value) (k : Nat) : Option Box :=
  if k < R.bx.length then match R.bx[k]? with
    | some b => (R.visc i f k b.cs).map fun l => ⟨b.blk, b.ty, l⟩
    | none => none
  else match R.ks[k - R.bx.length]? with
    | some (.new ty zs) => if R.dep (k - R.bx.length) i then (R.visc i f k zs).map fun l => ⟨blkOf (f (k - R.bx.length)), ty, l⟩ else none
    | _ => none
/-- A row that is not written to ahead of operation i. -/
def visr (i : Nat) (f : Nat → Value) (k : Nat) : Option Row :=
  let b : Option Row := if k < R.rw.length then R.rw[k]? else match R.ks[k - R.rw.length]? with
    | some (.mk s) => if R.dep (k - R.rw.length) i then some (s (f (k - R.rw.length))) else none
    | _ => none
  match rowIx k R.ks 0 with
  | none => b
  | some j => if R.dep i j || i == j then b else none
/-- What is known of memory when operation i comes up. -/
structure See (w0 u0 : World) (i : Nat) (f : Nat → Value) (u w : World) : Prop where
  old : Sub u0 u
  sub : Sub u w
  big : w0.heap.size ≤ w.heap.size
  row : ∀ k r, R.visr i f k = some r → ∃ xs, w.ownsRow w0.heap.size r.e r.sz r.v r.n xs ∧ r.S u xs
  box : ∀ k b, R.visb i f k = some b → w.heap[b.blk]? = some (.cells b.cs.toArray b.ty (0, 0))
  opq : ∀ k S, R.dep k i = true → R.ks[k]? = some (.opq S) → S u (f k)
  new : ∀ k ty zs, R.dep k i = true → R.ks[k]? = some (.new ty zs) → ∃ p, f k = .pointer (some ⟨p, 0, none⟩)
/-- What is to be shown of operation i. -/
def Ob (P : Program) (w0 u0 : World) (i : Nat) (o : Oper) : K → Prop
  | .con c => ∀ f u w, R.See w0 u0 i f u w →
      (execOp (R.ev i f) o).run P w = .ok (.value c) w ∨ ∃ fid args, (execOp (R.ev i f) o).run P w = .ok (.enter fid args) w ∧ Fn P fid args u fun _ v => v = c
  | .opq S => (∀ u u' v, Sub u u' → S u v → S u' v) ∧ ∀ f u w, R.See w0 u0 i f u w →
      (∃ v w' u', (execOp (R.ev i f) o).run P w = .ok (.value v) w' ∧ Adv w u w' u' ∧ S u' v) ∨ ∃ fid args, (execOp (R.ev i f) o).run P w = .ok (.enter fid args) w ∧ Fn P fid args u S
  | .new ty zs => ∀ f u w, R.See w0 u0 i f u w →
      (execOp (R.ev i f) o).run P w = .ok (.value (.pointer (some ⟨w.heap.size, 0, none⟩))) (w.alloc (.cells zs.toArray ty (0, 0)))
  | .sto x => ∀ f u w, R.See w0 u0 i f u w → ∀ b, R.visb i f x.k = some b →
      (execOp (R.ev i f) o).run P w = .ok .skip (w.setRow b.blk (patch b.cs x.off (R.srcv f x.s).cells.toList).toArray)
  | .cpy j => ∀ f u w, R.See w0 u0 i f u w → (execOp (R.ev i f) o).run P w = .ok (.value (R.val f j)) w
  | .rop k r => ∀ f u w, R.See w0 u0 i f u w → ∀ r0, R.visr i f k = some r0 → ∃ v w', (execOp (R.ev i f) o).run P w = .ok (.value v) w' ∧ w.grownBy w' r0.v.ownBlock ∧ (r v).v = v ∧
      (∃ xs, w'.ownsRow w0.heap.size (r v).e (r v).sz (r v).v (r v).n xs ∧ (r v).S u xs) ∧ (v.ownBlock = r0.v.ownBlock ∨ v.ownBlock = some w.heap.size)
  | .rst k r => ∀ f u w, R.See w0 u0 i f u w → ∀ r0, R.visr i f k = some r0 → ∃ w', (execOp (R.ev i f) o).run P w = .ok .skip w' ∧ w.grownBy w' r0.v.ownBlock ∧
      (∃ xs, w'.ownsRow w0.heap.size r.e r.sz r.v r.n xs ∧ r.S u xs) ∧ r.v.ownBlock = r0.v.ownBlock
  | .mk r => ∀ f u w, R.See w0 u0 i f u w → ∃ v w', (execOp (R.ev i f) o).run P w = .ok (.value v) w' ∧ w.grownBy w' none ∧ (r v).v = v ∧
      (∃ xs, w'.ownsRow w0.heap.size (r v).e (r v).sz (r v).v (r v).n xs ∧ (r v).S u xs) ∧ (v.ownBlock = none ∨ v.ownBlock = some w.heap.size)
def Obs (P : Program) (w0 u0 : World) : Nat → List Oper → List K → Prop
  | _, [], _ => True
  | i, o :: r, k :: ks => (match R.want o i with | some false => True | _ => R.Ob P w0 u0 i o k) ∧ Obs P w0 u0 (i + 1) r ks
  | _, _ :: _, [] => False
def okOperand (i : Nat) : Operand → Bool
  | .tmp t => match idxOf t R.ops.toList 0 with
    | some k => R.dep k i || ((R.dep i k || k == i) && (lk R.g t).isSome)
    | none => (lk R.g t).isSome
  | _ => true
def okK (i : Nat) (o : Oper) : Bool := match R.ks[i]? with
  | some (.con c) => match R.want o i with
    | some true => true
    | some false => isUndef c
    | none => false
  | some (.opq _) => R.want o i == some true
  | some (.new _ _) => R.want o i == some true && (match stIx (R.bx.length + i) R.ks 0 with | some j => R.dep i j | none => true)
  | some (.sto x) => R.want o i == some true && o.dst.isNone && stIx x.k R.ks 0 == some i &&
      (match x.s with | .op q => R.dep q i | .lit _ => true) &&
      (if x.k < R.bx.length then true else R.dep (x.k - R.bx.length) i && (match R.ks[x.k - R.bx.length]? with | some (.new _ _) => true | _ => false))
  | some (.rop k _) => R.want o i == some true && rowIx k R.ks 0 == some i && (decide (k < R.rw.length) || (R.dep (k - R.rw.length) i && (match R.ks[k - R.rw.length]? with | some (.mk _) => true | _ => false)))
  | some (.rst k _) => R.want o i == some true && o.dst.isNone && rowIx k R.ks 0 == some i && (decide (k < R.rw.length) || (R.dep (k - R.rw.length) i && (match R.ks[k - R.rw.length]? with | some (.mk _) => true | _ => false)))
  | some (.mk _) => R.want o i == some true
  | some (.cpy j) => R.want o i == some true && R.dep j i && (match R.ks[j]? with | some (.con _) | some (.opq _) | some (.new _ _) | some (.rop _ _) | some (.mk _) => true | _ => false)
  | none => false
def okOp (i : Nat) (o : Oper) : Bool :=
  o.op.operands.toList.all (R.okOperand i) && o.after.toList.all (fun e => !Region.binds .any e || decide (e.on < i)) &&
  (match o.dst with | some t => idxOf t R.ops.toList 0 == some i && decide (t < R.n) | none => true) && R.okK i o
def okOps : Nat → List Oper → Bool
  | _, [] => true
  | i, o :: r => R.okOp i o && okOps (i + 1) r
def ok : Bool := R.okOps 0 R.ops.toList && Region.noSelect R.ops && R.ks.length == R.ops.size
end Reg
end Go.Proofs.Ytaagioghkicdkaa
