/- A logic for regions whose order is open: rows of elements, read or of one's own. -/
import Derived.Test.YtaagioghkicdkaaUC
import Derived.Deep.Upon
set_option linter.unusedVariables false
set_option linter.unusedSimpArgs false
namespace Go.Proofs.Ytaagioghkicdkaa
open Go.RowKit

/-- A kind of elements: so many cells each. -/
structure DK {α : Type} (d : World → α → List Value → Prop) (sz : Nat) : Prop where
  mono : ∀ u u' x cs, Sub u u' → d u x cs → d u' x cs
  one : ∀ u x cs, d u x cs → ∀ c ∈ cs, c.oneCell' = true
  len : ∀ u x cs, d u x cs → cs.length = sz
  pos : 0 < sz
section
variable {α : Type} {d : World → α → List Value → Prop} {sz : Nat} (hd : DK d sz)
/-- Cells that are these elements. -/
def Els (d : World → α → List Value → Prop) : List α → World → List Value → Prop
  | [], _, xs => xs = []
  | a :: l, u, xs => ∃ cs r, xs = cs ++ r ∧ d u a cs ∧ Els d l u r
include hd
theorem Els.mono : ∀ (l : List α) (u u' : World) (xs : List Value), Sub u u' → Els d l u xs → Els d l u' xs
  | [], _, _, _, _, h => h
  | a :: l, u, u', xs, hs, ⟨cs, r, e, h1, h2⟩ => ⟨cs, r, e, hd.mono _ _ _ _ hs h1, Els.mono l u u' r hs h2⟩
omit hd in
theorem Els.append : ∀ (l m : List α) (u : World) (xs ys : List Value), Els d l u xs → Els d m u ys → Els d (l ++ m) u (xs ++ ys)
  | [], m, u, xs, ys, h, k => by rw [show xs = [] from h]; exact k
  | a :: l, m, u, xs, ys, ⟨cs, r, e, h1, h2⟩, k => ⟨cs, r ++ ys, by rw [e, List.append_assoc], h1, Els.append l m u r ys h2 k⟩
theorem Els.len : ∀ (l : List α) (u : World) (xs : List Value), Els d l u xs → xs.length = l.length * sz
  | [], _, _, h => by rw [show _ = [] from h]; simp
  | a :: l, u, xs, ⟨cs, r, e, h1, h2⟩ => by rw [e, List.length_append, hd.len _ _ _ h1, Els.len l u r h2, List.length_cons, Nat.add_mul]; omega
theorem Els.one : ∀ (l : List α) (u : World) (xs : List Value), Els d l u xs → ∀ c ∈ xs, c.oneCell' = true
  | [], _, _, h => by rw [show _ = [] from h]; simp
  | a :: l, u, xs, ⟨cs, r, e, h1, h2⟩ => by
    intro c hc
    rw [e] at hc
    rcases List.mem_append.1 hc with hc | hc
    · exact hd.one _ _ _ h1 c hc
    · exact Els.one l u r h2 c hc
theorem Els.at : ∀ (l : List α) (u : World) (xs : List Value) (i : Nat) (a : α), Els d l u xs → l[i]? = some a → ∃ p cs q, xs = p ++ cs ++ q ∧ p.length = i * sz ∧ d u a cs ∧ ∀ b cs', d u b cs' → Els d (l.set i b) u (p ++ cs' ++ q)
  | [], _, _, _, _, _, h => by simp at h
  | a :: l, u, xs, 0, b, ⟨cs, r, e, h1, h2⟩, h => by
    simp at h; subst h
    exact ⟨[], cs, r, by simpa using e, by simp, h1, fun b cs' hb => ⟨cs', r, by simp, hb, h2⟩⟩
  | a :: l, u, xs, i + 1, b, ⟨cs, r, e, h1, h2⟩, h => by
    obtain ⟨p, c, q, e', hp, hc, hset⟩ := Els.at l u r i b h2 (by simpa using h)
    refine ⟨cs ++ p, c, q, by rw [e, e']; simp, by rw [List.length_append, hp, hd.len _ _ _ h1, Nat.add_mul]; omega, hc, fun b cs' hb => ⟨cs, p ++ cs' ++ q, by simp, h1, hset b cs' hb⟩⟩

/-- A slice that reads as these elements. -/
def Sl (d : World → α → List Value → Prop) (u : World) (v : Value) (l : List α) : Prop :=
  ∃ A n c, v = .slice A n c ∧ l.length = n ∧ n ≤ c ∧ n ≤ 9223372036854775807 ∧ (0 < n → ∃ ad, A = some ad ∧ ∃ xs, Els d l u xs ∧ ∀ j v, xs[j]? = some v → u.cell? (ad.add j) = some v)
theorem Sl.sub {u u' : World} {v : Value} {l : List α} (h : Sl d u v l) (hs : Sub u u') : Sl d u' v l := by
  obtain ⟨A, n, c, e, h1, h2, h3, h4⟩ := h
  refine ⟨A, n, c, e, h1, h2, h3, fun hp => ?_⟩
  obtain ⟨ad, ea, xs, h5, h6⟩ := h4 hp
  exact ⟨ad, ea, xs, Els.mono hd l u u' xs hs h5, fun j v hv => hs _ _ (h6 j v hv)⟩
omit hd in
theorem Sl.nil (u : World) : Sl d u (.slice none 0 0) [] := ⟨none, 0, 0, rfl, rfl, Nat.le_refl _, by omega, fun h => absurd h (by omega)⟩
theorem Sl.at {u : World} {A : Option Addr} {n c : Nat} {l : List α} (h : Sl d u (.slice A n c) l) (i : Nat) (hi : i < n) : ∃ ad x cs, A = some ad ∧ l[i]? = some x ∧ d u x cs ∧ ∀ j v, cs[j]? = some v → u.cell? ((ad.add (i * sz)).add j) = some v := by
  obtain ⟨A', n', c', e, h1, h2, h3, h4⟩ := h
  cases e
  obtain ⟨ad, ea, xs, h5, h6⟩ := h4 (by omega)
  have hx : l[i]? = some l[i] := List.getElem?_eq_getElem (by omega)
  obtain ⟨p, cs, q, e, hp, hc, _⟩ := Els.at hd l u xs i _ h5 hx
  refine ⟨ad, _, cs, ea, hx, hc, fun j v hv => ?_⟩
  have := h6 (i * sz + j) v (by
    rw [e, List.append_assoc, List.getElem?_append_right (by omega), hp, Nat.add_sub_cancel_left]
    rw [List.getElem?_append_left (List.getElem?_eq_some_iff.1 hv).1]; exact hv)
  rwa [show (ad.add (i * sz)).add j = ad.add (i * sz + j) from by
    unfold Addr.add
    by_cases h1 : i * sz = 0 <;> by_cases h2 : j = 0 <;> simp [h1, h2] <;> omega]

/-- A row of one's own that is these elements. -/
def rowE (hd : DK d sz) (v : Value) (e : TypeId) (l : List α) : Row := ⟨v, e, sz, l.length, Els d l, fun u u' xs hs h => Els.mono hd l u u' xs hs h⟩
end

/-- Block k, known for good from now on. -/
def solid (u w : World) (k : Nat) : World := { w with heap := Array.ofFn (n := w.heap.size) fun b => if b.val = k then w.heap[b] else (u.heap[b.val]?).getD (.cells #[] 0 (0, 0)) }
theorem solid_cell {u w : World} {k : Nat} (hs : Sub u w) (a : Addr) : (solid u w k).cell? a = if a.block = k then w.cell? a else u.cell? a := by
  by_cases hlt : a.block < w.heap.size
  · unfold World.cell? solid
    simp only [Array.getElem?_ofFn, hlt, dif_pos]
    by_cases hk : a.block = k
    · simp [hk, Array.getElem?_eq_getElem (show k < w.heap.size by omega)]
    · simp only [hk, if_false]
      cases hu : u.heap[a.block]? with
      | none => simp
      | some ob => simp
  · have h1 : (solid u w k).cell? a = none := cell_none (by unfold solid; simp; omega)
    have h2 : w.cell? a = none := cell_none (by omega)
    rw [h1, h2]
    split
    · rfl
    · cases hu : u.cell? a with
      | none => rfl
      | some v => rw [hs a v hu] at h2; cases h2
section
variable {α : Type} {d : World → α → List Value → Prop} {sz : Nat} {hd : DK d sz}
variable {P : Program} {R : Reg} {w0 u0 : World} {i : Nat} {o : Oper}
/-- A slice's type, its elements' type, size, bytes and nought. -/
def SlT (P : Program) (t e : TypeId) (sz bytes : Nat) : Prop := P.underlying t = some (.slice e) ∧ ∃ z : Value, (P.info? e).map (fun i => (i.zero, i.size, i.bytes)) = some (some z, sz, bytes) ∧ z.cells.size = sz
theorem SlT.mk {t e : TypeId} {sz bytes : Nat} (z : Value) (h1 : P.underlying t = some (.slice e) := by kernel_rfl) (h2 : (P.info? e).map (fun i => (i.zero, i.size, i.bytes)) = some (some z, sz, bytes) := by kernel_rfl) (h3 : z.cells.size = sz := by rfl) : SlT P t e sz bytes := ⟨h1, z, h2, h3⟩
/-- append(row, a slice's elements...), the slice not empty. -/
theorem apG (k : Nat) {t e : TypeId} {bytes : Nat} {v0 : (Nat → Value) → Value} {l ys : List α} {s x : Operand} (hT : SlT P t e sz bytes) (hk : ∀ f, R.visr i f k = some (rowE hd (v0 f) e l)) (hy : ∀ f u w, R.See w0 u0 i f u w → Sl d u (R.ev i f x) ys) (hy0 : 0 < ys.length)
    (hb : (l.length + ys.length) * bytes ≤ 140737488355328) (h0 : 0 < bytes) (ho : o.op = .call { callee := .builtin .append, args := #[s, x], argTypes := #[t, t] }) (hs : ∀ f, R.ev i f s = v0 f) :
    R.Ob P w0 u0 i o (.rop k fun v => rowE hd v e (l ++ ys)) := fun f u w hse r0 hr0 => by
  rw [hk f] at hr0
  cases hr0
  obtain ⟨ht, z, hz, hzc⟩ := hT
  obtain ⟨inf, hi, hzz⟩ := Option.map_eq_some_iff.1 hz
  simp only [Prod.mk.injEq] at hzz
  obtain ⟨hz0, hz1, hz2⟩ := hzz
  obtain ⟨xs, hown, hS⟩ := hse.row k _ (hk f)
  obtain ⟨A, n, c, ey, hn, hnc, hnm, hcell⟩ := hy f u w hse
  obtain ⟨ad, ea, zs, hE, hc⟩ := hcell (by omega)
  subst ea
  have hlen := Els.len hd ys u zs hE
  have hm : l.length + n ≤ maxLen := by
    have := Nat.le_trans (Nat.le_mul_of_pos_right _ h0) hb
    unfold maxLen; omega
  obtain ⟨v', w', hr, h2, h3, _, h5⟩ := run_append_own_at (P := P) w w0.heap.size t o.type e inf z sz bytes ht hi hz0 hz1 hz2 hzc hd.pos (v0 f) l.length xs hown ad n c zs (by rw [hlen, hn]) (fun j v hv => hse.sub _ _ (hc j v hv)) (Els.one hd ys u zs hE) hm (by rw [← hn]; exact hb) hse.big
  refine ⟨v', w', ?_, h3, rfl, ⟨xs ++ zs, ?_, Els.append l ys u xs zs hS hE⟩, h5⟩
  · unfold execOp
    simp only [ho, resolve, invoke, builtin, Sem.run_bind, Sem.run_pure, Result.andThen_ok, List.map_toArray, List.map_cons, List.map_nil, hs f, ey, hr]
  · show w'.ownsRow w0.heap.size e sz v' (l ++ ys).length (xs ++ zs)
    rw [List.length_append, hn]
    exact h2
theorem ap (k j : Nat) {t e : TypeId} {bytes : Nat} {v0 : (Nat → Value) → Value} {l ys : List α} {s x : Operand} (hT : SlT P t e sz bytes) (hk : ∀ f, R.visr i f k = some (rowE hd (v0 f) e l)) (hy : R.ks[j]? = some (.opq fun u r => Sl d u r ys)) (hy0 : 0 < ys.length)
    (hb : (l.length + ys.length) * bytes ≤ 140737488355328) (h0 : 0 < bytes) (hdep : R.dep j i = true := by kernel_rfl) (ho : o.op = .call { callee := .builtin .append, args := #[s, x], argTypes := #[t, t] } := by rfl) (hs : ∀ f, R.ev i f s = v0 f := by intro f; kernel_rfl) (hx : ∀ f, R.ev i f x = f j := by intro f; kernel_rfl) :
    R.Ob P w0 u0 i o (.rop k fun v => rowE hd v e (l ++ ys)) :=
  apG k hT hk (fun f u w hse => by rw [hx f]; exact hse.opq j _ hdep hy) hy0 hb h0 ho hs
/-- The same, of a slice that is known ahead. -/
theorem apS (k : Nat) {t e : TypeId} {bytes : Nat} {v0 : (Nat → Value) → Value} {l ys : List α} {s x : Operand} {y : Value} (hT : SlT P t e sz bytes) (hk : ∀ f, R.visr i f k = some (rowE hd (v0 f) e l)) (hy : Sl d u0 y ys) (hy0 : 0 < ys.length)
    (hb : (l.length + ys.length) * bytes ≤ 140737488355328) (h0 : 0 < bytes) (ho : o.op = .call { callee := .builtin .append, args := #[s, x], argTypes := #[t, t] } := by rfl) (hs : ∀ f, R.ev i f s = v0 f := by intro f; kernel_rfl) (hx : ∀ f, R.ev i f x = y := by intro f; kernel_rfl) :
    R.Ob P w0 u0 i o (.rop k fun v => rowE hd v e (l ++ ys)) :=
  apG k hT hk (fun f u w hse => by rw [hx f]; exact hy.sub hd hse.old) hy0 hb h0 ho hs
/-- append(row, nothing...). -/
theorem apN (k : Nat) {t e : TypeId} {bytes : Nat} {v0 : (Nat → Value) → Value} {l : List α} {s x : Operand} {A : Option Addr} {c : Nat} (hT : SlT P t e sz bytes) (hk : ∀ f, R.visr i f k = some (rowE hd (v0 f) e l)) (hA : ∀ ad, A = some ad → False) (ho : o.op = .call { callee := .builtin .append, args := #[s, x], argTypes := #[t, t] } := by rfl) (hs : ∀ f, R.ev i f s = v0 f := by intro f; kernel_rfl) (hx : ∀ f, R.ev i f x = .slice A 0 c := by intro f; kernel_rfl) :
    R.Ob P w0 u0 i o (.rop k fun v => rowE hd v e l) := fun f u w hse r0 hr0 => by
  rw [hk f] at hr0
  cases hr0
  obtain ⟨ht, z, hz, hzc⟩ := hT
  obtain ⟨inf, hi, hzz⟩ := Option.map_eq_some_iff.1 hz
  simp only [Prod.mk.injEq] at hzz
  obtain ⟨hz0, hz1, hz2⟩ := hzz
  obtain ⟨xs, hown, hS⟩ := hse.row k _ (hk f)
  have hA' : A = none := by cases A with | none => rfl | some ad => exact (hA ad rfl).elim
  subst hA'
  have hv : ∃ B n cp, v0 f = .slice B n cp ∧ n ≤ cp := by
    rcases hown.2 with ⟨ev, hn⟩ | ⟨g, cap, cur, ev, _, _, hc1, _⟩
    · exact ⟨none, 0, 0, ev, Nat.le_refl _⟩
    · exact ⟨_, _, _, ev, hc1⟩
  obtain ⟨B, n, cp, ev, hle⟩ := hv
  refine ⟨v0 f, w, ?_, ⟨rfl, rfl, rfl, Nat.le_refl _, fun _ _ _ => rfl⟩, rfl, ⟨xs, hown, hS⟩, .inl rfl⟩
  unfold execOp
  cases B with
  | none => simp [ho, resolve, invoke, builtin, hs f, ev, hx f, Builtin.append_, run_underlying ht, sizeOf, typeInfo, hi, Builtin.lenOf, hle, Builtin.firstCells, storeCells]
  | some b => simp [ho, resolve, invoke, builtin, hs f, ev, hx f, Builtin.append_, run_underlying ht, sizeOf, typeInfo, hi, Builtin.lenOf, hle, Builtin.firstCells, storeCells]
theorem fill_all (f : Nat → Nat) (hf : ∀ j, f j = j) : ∀ (l : List Value) (k : Nat) (acc : Array Value), acc.size = k + l.length → (l.zipIdx k).foldl (fun cs (p : Value × Nat) => cs.setIfInBounds (f p.2) p.1) acc = (acc.toList.take k ++ l).toArray
  | [], k, acc, h => by
    simp only [List.zipIdx_nil, List.foldl_nil, List.append_nil]
    rw [List.take_of_length_le (by simp at h ⊢; omega)]
  | c :: l, k, acc, h => by
    rw [List.zipIdx_cons, List.foldl_cons, fill_all f hf l (k + 1) _ (by simp at h ⊢; omega)]
    congr 1
    simp only [hf, Array.toList_setIfInBounds]
    rw [List.take_succ_eq_append_getElem (by simp at h ⊢; omega), List.take_set_of_le (Nat.le_refl _)]
    simp
theorem run_slice1 {t e : TypeId} {bytes : Nat} (hT : SlT P t e sz bytes) (h24 : sz ≤ 16777216) (h0 : 0 < sz) (v : Value) (w : World) (hv : v.cells.size = sz) : (Instr.buildSlice t 1 #[(0, v)]).run P w = .ok (.slice (some ⟨w.heap.size, 0, none⟩) 1 1) (w.alloc (.cells v.cells e (0, 0))) := by
  obtain ⟨ht, z, hz, hzc⟩ := hT
  obtain ⟨inf, hi, hzz⟩ := Option.map_eq_some_iff.1 hz
  simp only [Prod.mk.injEq] at hzz
  obtain ⟨hz0, hz1, hz2⟩ := hzz
  have hfill := fill_all (fun j => 0 * sz + j) (by simp) v.cells.toList 0 ((Array.range (1 * sz)).map (z.cells[· % z.cells.size]!)) (by simp [hv])
  have hf : Instr.fill (fun i => some (i * sz, sz)) ((Array.range (1 * sz)).map (z.cells[· % z.cells.size]!)) [(0, v)] = some v.cells := by
    simp only [Instr.fill, hv]
    rw [if_neg (by simp)]
    congr 1
    rw [← Array.foldl_toList, Array.toList_zipIdx]
    simpa using hfill
  have hsz : (sizeOf e).run P w = .ok sz w := by simp [sizeOf, typeInfo, hi, hz1]
  have hzv : (zeroValue e).run P w = .ok z w := by simp [zeroValue, typeInfo, hi, hz0]
  unfold Instr.buildSlice
  simp only [Sem.run_bind, run_underlying ht, Result.andThen_ok, hsz]
  rw [if_neg (by omega)]
  simp only [Sem.run_bind, Sem.run_pure, Result.andThen_ok, if_neg (show ¬ 1 * sz = 0 by omega), hzv]
  rw [hf]
  simp [newRow]
/-- New cells of one's own, known for good at once. -/
theorem adv_alloc {u w : World} (hs : Sub u w) (cs : Array Value) (e : TypeId) : ∃ u', Adv w u (w.alloc (.cells cs e (0, 0))) u' ∧ ∀ j v, cs[j]? = some v → u'.cell? ⟨w.heap.size, j, none⟩ = some v := by
  have hsub : Sub u (w.alloc (.cells cs e (0, 0))) := fun a v hv => by
    have h1 := hs a v hv
    rw [World.cell?_alloc_lt]
    · exact h1
    · apply Nat.lt_of_not_le
      intro hle
      rw [cell_none hle] at h1
      cases h1
  refine ⟨solid u (w.alloc (.cells cs e (0, 0))) w.heap.size, ⟨(Below.refl _ _).alloc (Nat.le_refl _) _, fun a v hv => ?_, fun a v hv => ?_, fun p hp hd a ha => ?_⟩, fun j v hv => ?_⟩
  · rw [solid_cell hsub, if_neg (fun e => by
      have := hs a v hv
      rw [cell_none (by omega)] at this
      cases this)]
    exact hv
  · rw [solid_cell hsub] at hv
    split at hv
    · exact hv
    · exact hsub a v hv
  · rw [solid_cell hsub, if_neg (by omega)]
    exact hd a ha
  · rw [solid_cell hsub, if_pos rfl]
    unfold World.cell?
    rw [heap_alloc_new]
    simpa using hv
/-- A slice of one element, just made. -/
theorem bs1 {t e : TypeId} {bytes : Nat} {x : α} {y : Operand} (hd : DK d sz) (hT : SlT P t e sz bytes) (hy : ∀ f u w, R.See w0 u0 i f u w → d u x (R.ev i f y).cells.toList) (h24 : Nat.ble sz 16777216 = true := by rfl) (ho : o.op = .buildSlice t 1 #[(0, y)] := by rfl) : R.Ob P w0 u0 i o (.opq fun u r => Sl d u r [x]) :=
  ⟨fun _ _ _ hs h => h.sub hd hs, fun f u w hs => .inl (by
    have hdx := hy f u w hs
    have hl := hd.len _ _ _ hdx
    have hr := run_slice1 hT (Nat.le_of_ble_eq_true h24) hd.pos (R.ev i f y) w (by simpa using hl)
    obtain ⟨u', hadv, hc⟩ := adv_alloc hs.sub (R.ev i f y).cells e
    refine ⟨.slice (some ⟨w.heap.size, 0, none⟩) 1 1, w.alloc (.cells (R.ev i f y).cells e (0, 0)), u', by simp [execOp, ho, hr], hadv, ?_⟩
    refine ⟨some ⟨w.heap.size, 0, none⟩, 1, 1, rfl, rfl, Nat.le_refl _, by omega, fun _ => ⟨_, rfl, (R.ev i f y).cells.toList, ⟨_, [], (List.append_nil _).symm, hd.mono _ _ _ _ hadv.2.1 hdx, rfl⟩, fun j v hv => ?_⟩⟩
    rw [add_none, Nat.zero_add]
    exact hc j v (by simpa using hv))⟩
/-- A slice of one element that has no room. -/
def Sl1 (d : World → α → List Value → Prop) (x : α) (u : World) (r : Value) : Prop := Sl d u r [x] ∧ ∃ ad, r = .slice (some ad) 1 1
theorem bs1T {t e : TypeId} {bytes : Nat} {x : α} {y : Operand} (hd : DK d sz) (hT : SlT P t e sz bytes) (hy : ∀ f u w, R.See w0 u0 i f u w → d u x (R.ev i f y).cells.toList) (h24 : Nat.ble sz 16777216 = true := by rfl) (ho : o.op = .buildSlice t 1 #[(0, y)] := by rfl) : R.Ob P w0 u0 i o (.opq (Sl1 d x)) :=
  ⟨fun _ _ _ hs h => ⟨h.1.sub hd hs, h.2⟩, fun f u w hs => .inl (by
    have hdx := hy f u w hs
    have hl := hd.len _ _ _ hdx
    have hr := run_slice1 hT (Nat.le_of_ble_eq_true h24) hd.pos (R.ev i f y) w (by simpa using hl)
    obtain ⟨u', hadv, hc⟩ := adv_alloc hs.sub (R.ev i f y).cells e
    refine ⟨.slice (some ⟨w.heap.size, 0, none⟩) 1 1, w.alloc (.cells (R.ev i f y).cells e (0, 0)), u', by simp [execOp, ho, hr], hadv, ?_, _, rfl⟩
    refine ⟨some ⟨w.heap.size, 0, none⟩, 1, 1, rfl, rfl, Nat.le_refl _, by omega, fun _ => ⟨_, rfl, (R.ev i f y).cells.toList, ⟨_, [], (List.append_nil _).symm, hd.mono _ _ _ _ hadv.2.1 hdx, rfl⟩, fun j v hv => ?_⟩⟩
    rw [add_none, Nat.zero_add]
    exact hc j v (by simpa using hv))⟩
/-- append([]T{x}, slice...): new memory, or the slice of x itself. -/
theorem apQ (j : Nat) {t e : TypeId} {bytes : Nat} {x : α} {ys : List α} {s z : Operand} (hd : DK d sz) (hT : SlT P t e sz bytes) (hj : R.ks[j]? = some (.opq (Sl1 d x))) (hy : ∀ f u w, R.See w0 u0 i f u w → Sl d u (R.ev i f z) ys)
    (hb : (1 + ys.length) * bytes ≤ 140737488355328) (h0 : 0 < bytes) (hdep : R.dep j i = true := by kernel_rfl) (ho : o.op = .call { callee := .builtin .append, args := #[s, z], argTypes := #[t, t] } := by rfl) (hs : ∀ f, R.ev i f s = f j := by intro f; kernel_rfl) :
    R.Ob P w0 u0 i o (.opq fun u r => Sl d u r (x :: ys)) := ⟨fun _ _ _ hs h => h.sub hd hs, fun f u w hse => .inl (by
  obtain ⟨ht, zv, hz, hzc⟩ := hT
  obtain ⟨inf, hi, hzz⟩ := Option.map_eq_some_iff.1 hz
  simp only [Prod.mk.injEq] at hzz
  obtain ⟨hz0, hz1, hz2⟩ := hzz
  subst hz1
  subst hz2
  obtain ⟨hsl, ad, es⟩ := hse.opq j _ hdep hj
  obtain ⟨A, n, c, ey, hn, hnc, hnm, hcell⟩ := hy f u w hse
  have hcall : ∀ v w', (Builtin.append_ #[t, t] o.type #[f j, R.ev i f z]).run P w = .ok v w' → (execOp (R.ev i f) o).run P w = .ok (.value v) w' := fun v w' h => by
    unfold execOp
    simp only [ho, resolve, invoke, builtin, Sem.run_bind, Sem.run_pure, Result.andThen_ok, List.map_toArray, List.map_cons, List.map_nil, hs f, h]
  rcases Nat.eq_zero_or_pos n with hn0 | hn0
  · have hys : ys = [] := List.eq_nil_of_length_eq_zero (by omega)
    subst hys
    subst hn0
    refine ⟨f j, w, u, hcall _ _ ?_, Adv.refl hse.sub, hsl⟩
    rw [es, ey]
    cases A with
    | none => simp [Builtin.append_, run_underlying ht, sizeOf, typeInfo, hi, Builtin.lenOf, Builtin.firstCells, storeCells]
    | some b => simp [Builtin.append_, run_underlying ht, sizeOf, typeInfo, hi, Builtin.lenOf, Builtin.firstCells, loadCells, loadCellsFrom, storeCells]
  · obtain ⟨bd, ea, zs, hE, hc⟩ := hcell hn0
    obtain ⟨A1, n1, c1, e1, hn1, _, _, hcell1⟩ := hsl
    rw [es] at e1
    cases e1
    obtain ⟨ad', ead, xs, hEx, hcx⟩ := hcell1 (by omega)
    cases ead
    have hlx := Els.len hd _ _ _ hEx
    have hlz := Els.len hd _ _ _ hE
    have h63 : 1 + n ≤ 140737488355328 := by
      have := Nat.le_trans (Nat.le_mul_of_pos_right _ h0) hb
      omega
    have hfit := growslice_fits (need := 1 + n) (old := 1) (bytes := inf.bytes) (by omega) (by rw [← hn]; exact hb)
    subst ea
    have hr := run_append_grow (P := P) w t o.type e inf zv ht hi hz0 ad 1 1 xs (by rw [hlx]; rfl) (fun q v hv => hse.sub _ _ (hcx q v hv)) bd n c zs (by rw [hlz, hn]) (fun q v hv => hse.sub _ _ (hc q v hv)) (by omega) (by omega) hfit
    rw [← es, ← ey] at hr
    obtain ⟨u', hadv, hcc⟩ := adv_alloc (w := w.drew) (u := u) hse.sub (xs.toArray ++ zs.toArray ++ Builtin.zeroCells zv.cells (grownCap w (1 + n) 1 e - (1 + n))) e
    have hadv' : Adv w u (w.drew.alloc (.cells (xs.toArray ++ zs.toArray ++ Builtin.zeroCells zv.cells (grownCap w (1 + n) 1 e - (1 + n))) e (0, 0))) u' := ⟨((Below.refl _ w).drew).trans hadv.1, hadv.2.1, hadv.2.2.1, hadv.2.2.2⟩
    refine ⟨_, _, u', hcall _ _ hr, hadv', ⟨some ⟨w.heap.size, 0, none⟩, 1 + n, _, rfl, by simp [hn]; omega, grownCap_ge w (1 + n) 1 e, by omega, fun _ => ⟨_, rfl, xs ++ zs, ?_, fun q v hv => ?_⟩⟩⟩
    · have := Els.append [x] ys u' xs zs (Els.mono hd _ _ _ _ hadv.2.1 hEx) (Els.mono hd _ _ _ _ hadv.2.1 hE)
      exact this
    · rw [add_none, Nat.zero_add]
      refine hcc q v ?_
      have hq := (List.getElem?_eq_some_iff.1 hv).1
      rw [Array.getElem?_append_left (by simpa using hq)]
      simpa using hv)⟩
/-- A slice of one element, just made, of one's own. -/
theorem bsM {t e : TypeId} {bytes : Nat} {x : α} {y : Operand} (hd : DK d sz) (hT : SlT P t e sz bytes) (hy : ∀ f u w, R.See w0 u0 i f u w → d u x (R.ev i f y).cells.toList) (h24 : Nat.ble sz 16777216 = true := by rfl) (ho : o.op = .buildSlice t 1 #[(0, y)] := by rfl) : R.Ob P w0 u0 i o (.mk fun v => rowE hd v e [x]) := fun f u w hs => by
  have hdx := hy f u w hs
  have hl := hd.len _ _ _ hdx
  have hl' : (R.ev i f y).cells.size = sz := by simpa using hl
  have hr := run_slice1 hT (Nat.le_of_ble_eq_true h24) hd.pos (R.ev i f y) w hl'
  have hown : (w.alloc (.cells (R.ev i f y).cells e (0, 0))).ownsRow w0.heap.size e sz (.slice (some ⟨w.heap.size, 0, none⟩) 1 1) 1 (R.ev i f y).cells.toList :=
    ⟨by simp [hl'], .inr ⟨w.heap.size, 1, _, rfl, hs.big, heap_alloc_new _ _, Nat.le_refl _, by unfold maxLen; omega, by rw [hl', Nat.one_mul], by rw [List.take_of_length_le (by simp [hl'])]⟩⟩
  exact ⟨.slice (some ⟨w.heap.size, 0, none⟩) 1 1, _, by simp [execOp, ho, hr], World.grownBy_alloc _ _ _, rfl, ⟨_, hown, ⟨_, [], (List.append_nil _).symm, hdx, rfl⟩⟩, .inr rfl⟩
/-- The address of an element. -/
theorem ix {t e : TypeId} {sz bytes : Nat} {ad : Addr} {A : Option Addr} {n c : Nat} {z : Int} {x y : Operand} {kk : IntKind} (hT : SlT P t e sz bytes) (hA : A = some ad) (h0 : 0 ≤ z) (h1 : z < n) (ho : o.op = .indexAddr t x y := by rfl) (hx : ∀ f, R.ev i f x = .slice A n c := by intro f; kernel_rfl) (hy : ∀ f, R.ev i f y = .int kk z := by intro f; kernel_rfl) : R.Ob P w0 u0 i o (.con (.pointer (some (ad.add (z.toNat * sz))))) := fun f u w _ => .inl (by
  obtain ⟨ht, z0, hz, hzc⟩ := hT
  obtain ⟨inf, hi, hzz⟩ := Option.map_eq_some_iff.1 hz
  simp only [Prod.mk.injEq] at hzz
  subst hA
  simp [execOp, ho, hx f, hy f, Instr.indexAt, asIntOf, run_underlying ht, h0, h1, sizeOf, typeInfo, hi, hzz.2.1])
/-- A load of an element that is known for good. -/
theorem li {ty : TypeId} {b : Bool} {m : Nat} {A : Addr} {vs : List Value} {x : Operand} (hT : Ty P ty b m) (hc : ∀ j v, vs[j]? = some v → u0.cell? (A.add j) = some v) (hl : vs.length = m) (h0 : (b || m == 1) = true := by rfl) (ho : o.op = .load ty x := by rfl) (hx : ∀ f, R.ev i f x = .pointer (some A) := by intro f; kernel_rfl) : R.Ob P w0 u0 i o (.con (asVal b vs)) := fun f u w hs => .inl (by
  have := run_loadAt (P := P) (w := w) (ad := A) (vs := vs) (by rw [hl]; exact hT) (fun j v hv => hs.sub _ _ (hs.old _ _ (hc j v hv))) (by rw [hl]; intro e; subst e; simpa using h0)
  simp [execOp, ho, hx f, Instr.loadAt, Instr.sureAddr, this])
end
section
variable {α : Type} {d : World → α → List Value → Prop} {sz : Nat} {hd : DK d sz}
variable {P : Program} {Q : Exit → Act → World → Prop} {n : Nat} {w0 u : World} {g : List (Nat × Value)} {bx : List Box} {rw : List Row}
/-- A nil slice is a row. -/
theorem tri_nil {c : Code} (hd : DK d sz) (e : TypeId) (h : Tri P c Q n w0 g bx (rw ++ [rowE hd (.slice none 0 0) e []]) u) : Tri P c Q n w0 g bx rw u := fun a w hF hS => h a w hF (by
  have hnew : ∀ i r, (rw ++ [rowE hd (.slice none 0 0) e []])[i]? = some r → rw[i]? = some r ∨ r = rowE hd (.slice none 0 0) e [] := fun i r hi => by
    rcases Nat.lt_or_ge i rw.length with hl | hl
    · rw [List.getElem?_append_left hl] at hi; exact .inl hi
    · rw [List.getElem?_append_right hl] at hi
      have := List.mem_of_getElem? hi
      exact .inr (by simpa using this)
  refine ⟨hS.below, hS.sub, hS.inj, hS.box, fun i r hi => ?_, fun i j r b hi hj => ?_, fun i j r s k hi hj hr hs => ?_⟩
  · rcases hnew i r hi with h | rfl
    · exact hS.row i r h
    · exact ⟨⟨[], World.ownsRow_nil _ _ _ _, rfl⟩, fun k hk => by simp [rowE, Value.ownBlock] at hk⟩
  · rcases hnew i r hi with h | rfl
    · exact hS.rbx i j r b h hj
    · simp [rowE, Value.ownBlock]
  · rcases hnew i r hi with h | rfl
    · rcases hnew j s hj with h' | rfl
      · exact hS.rrw i j r s k h h' hr hs
      · simp [rowE, Value.ownBlock] at hs
    · simp [rowE, Value.ownBlock] at hr)
/-- A row is written to no more. -/
theorem tri_freeze {c : Code} (k : Nat) {v : Value} {e : TypeId} {l : List α} (hk : rw[k]? = some (rowE hd v e l)) (h : ∀ u', Gr w0.heap.size u u' → Sl d u' v l → Tri P c Q n w0 g bx (rw.eraseIdx k) u') : Tri P c Q n w0 g bx rw u := fun a w hF hS => by
  obtain ⟨⟨xs, hown, hE⟩, hdead⟩ := hS.row k _ hk
  have herase : ∀ i r, (rw.eraseIdx k)[i]? = some r → ∃ i', i' ≠ k ∧ rw[i']? = some r ∧ (i < k → i' = i) ∧ (¬ i < k → i' = i + 1) := fun i r hi => by
    rw [List.getElem?_eraseIdx] at hi
    split at hi
    · rename_i hl; exact ⟨i, by omega, hi, fun _ => rfl, fun h => absurd hl h⟩
    · rename_i hl; exact ⟨i + 1, by omega, hi, fun h => absurd h hl, fun _ => rfl⟩
  rcases hown.2 with ⟨ev, hn⟩ | ⟨gb, cap, cur, ev, hg, hh, hc1, hc2, hc3, hc4⟩
  · have hl : l = [] := List.eq_nil_of_length_eq_zero hn
    subst hl
    have hv : v = .slice none 0 0 := ev
    subst hv
    refine h u (Gr.refl _ _) (Sl.nil u) a w hF ⟨hS.below, hS.sub, hS.inj, hS.box, fun i r hi => ?_, fun i j r b hi hj => ?_, fun i j r s p hi hj hr hs => ?_⟩
    · obtain ⟨i', _, hi', _⟩ := herase i r hi; exact hS.row i' r hi'
    · obtain ⟨i', _, hi', _⟩ := herase i r hi; exact hS.rbx i' j r b hi' hj
    · obtain ⟨i', _, hi', a1, a2⟩ := herase i r hi
      obtain ⟨j', _, hj', b1, b2⟩ := herase j s hj
      have := hS.rrw i' j' r s p hi' hj' hr hs
      by_cases h1 : i < k <;> by_cases h2 : j < k
      · have := a1 h1; have := b1 h2; omega
      · have := a1 h1; have := b2 h2; omega
      · have := a2 h1; have := b1 h2; omega
      · have := a2 h1; have := b2 h2; omega
  · have hv : v = .slice (some ⟨gb, 0, none⟩) l.length cap := ev
    subst hv
    have hgd : Dead u gb := hdead gb (by simp [rowE, Value.ownBlock])
    have hlt := heap_lt hh
    have hxs : ∀ j y, xs[j]? = some y → w.cell? ((⟨gb, 0, none⟩ : Addr).add j) = some y := hown.cells (by simp [rowE, Value.ownBlock])
    have hsu : Sub u (solid u w gb) := fun a y hy => by
      rw [solid_cell hS.sub, if_neg (fun e => by rw [hgd a e] at hy; cases hy)]; exact hy
    have hsw : Sub (solid u w gb) w := fun a y hy => by
      rw [solid_cell hS.sub] at hy
      split at hy
      · exact hy
      · exact hS.sub a y hy
    have hdd : ∀ p, p ≠ gb → Dead u p → Dead (solid u w gb) p := fun p hp hd a ha => by
      rw [solid_cell hS.sub, if_neg (by omega)]; exact hd a ha
    refine h (solid u w gb) ⟨hsu, fun p hp hd => hdd p (by omega) hd⟩ ?_ a w hF ⟨hS.below, hsw, hS.inj, fun i b hb => ?_, fun i r hi => ?_, fun i j r b hi hj => ?_, fun i j r s p hi hj hr hs => ?_⟩
    · refine ⟨_, _, _, rfl, rfl, hc1, by have : cap ≤ maxLen := hc2; unfold maxLen at this; exact Nat.le_trans hc1 this, fun _ => ⟨_, rfl, xs, Els.mono hd l u _ xs hsu hE, fun j y hy => ?_⟩⟩
      rw [solid_cell hS.sub, if_pos (by unfold Addr.add; split <;> rfl)]
      exact hxs j y hy
    · obtain ⟨k1, k2, k3⟩ := hS.box i b hb
      exact ⟨k1, hdd _ (fun e => hS.rbx k i _ b hk hb (by rw [e]; rfl)) k2, k3⟩
    · obtain ⟨i', hne, hi', _⟩ := herase i r hi
      obtain ⟨⟨ys, m1, m2⟩, m3⟩ := hS.row i' r hi'
      exact ⟨⟨ys, m1, r.mono _ _ _ hsu m2⟩, fun p hp => hdd p (fun e => hne (hS.rrw i' k r _ p hi' hk hp (by rw [e]; rfl))) (m3 p hp)⟩
    · obtain ⟨i', _, hi', _⟩ := herase i r hi; exact hS.rbx i' j r b hi' hj
    · obtain ⟨i', _, hi', a1, a2⟩ := herase i r hi
      obtain ⟨j', _, hj', b1, b2⟩ := herase j s hj
      have := hS.rrw i' j' r s p hi' hj' hr hs
      by_cases h1 : i < k <;> by_cases h2 : j < k
      · have := a1 h1; have := b1 h2; omega
      · have := a1 h1; have := b2 h2; omega
      · have := a2 h1; have := b1 h2; omega
      · have := a2 h1; have := b2 h2; omega
end
end Go.Proofs.Ytaagioghkicdkaa
