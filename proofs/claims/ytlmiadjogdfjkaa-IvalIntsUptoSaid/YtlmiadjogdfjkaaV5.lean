/- A logic of calls: slices that are known for good, rows of one's own. -/
import Derived.Test.YtlmiadjogdfjkaaV4
import Derived.Laws.MakeOwn
import Derived.Deep.Upon
set_option linter.unusedVariables false
set_option linter.unusedSimpArgs false
namespace Go.Proofs.Ytlmiadjogdfjkaa.V
open Go.RowKit

/-- How a kind of things is told: none of them mentions a name. -/
structure Cod (α : Type) where
  X : α → T
  sz : Nat
  dflt : α
  ns0 : ∀ a, (X a).ns = []
  sz0 : ∀ a, (X a).sz = sz
  pos : sz ≠ 0
def B0 : Env := fun _ => undef
section
variable {α : Type} {c : Cod α} {β : Env} {u u' w : World}
def Els (c : Cod α) (l : List α) (u : World) (cs : List Value) : Prop := Cells B0 u (l.map c.X) cs
theorem Cod.any (c : Cod α) {β β' : Env} {u : World} {a : α} {v : Value} (h : (c.X a).rep β u v) : (c.X a).rep β' u v := (c.X a).ext (fun e he => by rw [c.ns0 a] at he; cases he) h
theorem Els.mono {l : List α} {cs : List Value} (hs : Sub u u') (h : Els c l u cs) : Els c l u' cs := Cells.mono hs h
theorem szs_map (c : Cod α) : ∀ l : List α, szs (l.map c.X) = l.length * c.sz
  | [] => by simp [szs]
  | a :: l => by
    show (c.X a).sz + szs (l.map c.X) = _
    rw [szs_map c l, c.sz0, List.length_cons, Nat.add_mul]; omega
theorem Els.len {l : List α} {cs : List Value} (h : Els c l u cs) : cs.length = l.length * c.sz := by rw [(Cells.flat h).1, szs_map]
theorem Els.one {l : List α} {cs : List Value} (h : Els c l u cs) : ∀ x ∈ cs, x.oneCell' = true := List.all_eq_true.1 (Cells.flat h).2
theorem Els.append : ∀ {l m : List α} {xs ys : List Value}, Els c l u xs → Els c m u ys → Els c (l ++ m) u (xs ++ ys)
  | [], m, xs, ys, h, k => by rw [show xs = [] from h]; exact k
  | a :: l, m, xs, ys, ⟨v, rest, h0, h1, e, h2⟩, k => ⟨v, rest ++ ys, h0, h1, by rw [e, List.append_assoc], Els.append h2 k⟩
theorem Els.at : ∀ {l : List α} {xs : List Value} {i : Nat} {a : α}, Els c l u xs → l[i]? = some a → ∃ p v q, xs = p ++ v.cells.toList ++ q ∧ p.length = i * c.sz ∧ (c.X a).rep B0 u v ∧ ∀ b y, (c.X b).rep B0 u y → Els c (l.set i b) u (p ++ y.cells.toList ++ q)
  | [], _, _, _, _, h => by simp at h
  | a :: l, xs, 0, b, ⟨v, rest, h0, h1, e, h2⟩, h => by
    simp at h; subst h
    exact ⟨[], v, rest, by simpa using e, by simp, h1, fun b y hb => ⟨y, rest, by rw [c.sz0]; exact c.pos, hb, by simp, h2⟩⟩
  | a :: l, xs, i + 1, b, ⟨v, rest, h0, h1, e, h2⟩, h => by
    obtain ⟨p, y, q, e', hp, hy, hset⟩ := Els.at h2 (i := i) (a := b) (by simpa using h)
    refine ⟨v.cells.toList ++ p, y, q, by rw [e, e']; simp, by rw [List.length_append, hp, ((c.X a).shp h1 h0).1.1, c.sz0, Nat.add_mul]; omega, hy, fun b z hb => ⟨v, p ++ z.cells.toList ++ q, h0, h1, by simp, hset b z hb⟩⟩
theorem Els.take : ∀ (n : Nat) {l : List α} {xs : List Value}, Els c l u xs → n ≤ l.length → Els c (l.take n) u (xs.take (n * c.sz))
  | 0, l, xs, h, _ => by simp; rfl
  | n + 1, [], _, _, hn => by simp at hn
  | n + 1, a :: l, xs, ⟨v, rest, h0, h1, e, h2⟩, hn => by
    have hl := ((c.X a).shp h1 h0).1.1
    rw [c.sz0] at hl
    refine ⟨v, rest.take (n * c.sz), h0, h1, ?_, Els.take n h2 (by simpa using hn)⟩
    rw [e, List.take_append, hl, List.take_of_length_le (by rw [hl, Nat.add_mul]; omega)]
    congr 2
    rw [Nat.add_mul]; omega
theorem Els.drop : ∀ (n : Nat) {l : List α} {xs : List Value}, Els c l u xs → n ≤ l.length → Els c (l.drop n) u (xs.drop (n * c.sz))
  | 0, l, xs, h, _ => by simpa using h
  | n + 1, [], _, _, hn => by simp at hn
  | n + 1, a :: l, xs, ⟨v, rest, h0, h1, e, h2⟩, hn => by
    have hl := ((c.X a).shp h1 h0).1.1
    rw [c.sz0] at hl
    rw [e, List.drop_append, hl, List.drop_eq_nil_of_le (as := v.cells.toList) (by rw [hl, Nat.add_mul]; omega), List.nil_append, List.drop_succ_cons, show (n + 1) * c.sz - c.sz = n * c.sz by rw [Nat.add_mul]; omega]
    exact Els.drop n h2 (by simpa using hn)
theorem els_rep {v : Value} (hz : (c.X c.dflt).rep B0 u v) : ∀ n : Nat, Els c (List.replicate n c.dflt) u (List.replicate n v.cells.toList).flatten
  | 0 => rfl
  | n + 1 => ⟨v, (List.replicate n v.cells.toList).flatten, by rw [c.sz0]; exact c.pos, hz, by simp [List.replicate_succ], els_rep hz n⟩

/-- Cells that stand in memory for good. -/
def Stand (u : World) (ad : Addr) (xs : List Value) : Prop := ∀ j v, xs[j]? = some v → u.cell? (ad.add j) = some v
theorem Stand.mono {ad : Addr} {xs : List Value} (hs : Sub u u') (h : Stand u ad xs) : Stand u' ad xs := fun j v hv => hs _ _ (h j v hv)
/-- A slice that reads as these things. -/
def T.l (c : Cod α) (l : List α) : T := ⟨[], 1, false, fun _ u v => ∃ A n k, v = .slice A n k ∧ l.length = n ∧ n ≤ k ∧ k ≤ 9223372036854775807 ∧ (0 < n → ∃ ad, A = some ad ∧ ∃ xs, Els c l u xs ∧ Stand u ad xs),
  fun ⟨A, n, k, e, _⟩ _ => by subst e; exact ⟨⟨rfl, rfl⟩, rfl⟩, fun hs ⟨A, n, k, e, h1, h2, h3, h4⟩ => ⟨A, n, k, e, h1, h2, h3, fun hp => by
    obtain ⟨ad, ea, xs, h5, h6⟩ := h4 hp
    exact ⟨ad, ea, xs, h5.mono hs, h6.mono hs⟩⟩, fun _ h => h⟩
/-- A place in memory that stands for good. -/
def T.fp (X : T) : T := ⟨X.ns, 1, false, fun β u v => ∃ ad x, v = .pointer (some ad) ∧ X.sz ≠ 0 ∧ X.rep β u x ∧ Stand u ad x.cells.toList, fun ⟨ad, x, e, _⟩ _ => by subst e; exact ⟨⟨rfl, rfl⟩, rfl⟩,
  fun hs ⟨ad, x, e, h0, h1, h2⟩ => ⟨ad, x, e, h0, X.mono hs h1, h2.mono hs⟩, fun hn ⟨ad, x, e, h0, h1, h2⟩ => ⟨ad, x, e, h0, X.ext hn h1, h2⟩⟩
/-- A row of one's own: its elements' type, its elements. -/
def Ent.row (c : Cod α) (e : TypeId) (l : List α) : Ent := ⟨[], fun _ u w v F => ∃ xs, w.ownsRow 0 e c.sz v l.length xs ∧ Els c l u xs ∧ ∀ k, F k ↔ v.ownBlock = some k,
  fun hs ⟨xs, h1, h2, h3⟩ => ⟨xs, h1, h2.mono hs, h3⟩, fun _ h => h, fun hl ⟨xs, h1, h2, h3⟩ => ⟨xs, ⟨h1.1, by
    rcases h1.2 with h | ⟨g, cap, cur, rfl, hg, hh, r⟩
    · exact .inl h
    · exact .inr ⟨g, cap, cur, rfl, hg, (hl g ((h3 g).2 rfl)).trans hh, r⟩⟩, h2, h3⟩⟩
/-- A row that is written to no more. -/
def Ent.frz (c : Cod α) (l : List α) : Ent := ⟨[], fun _ u _ v F => (∀ k, ¬ F k) ∧ (T.l c l).rep B0 u v, fun hs ⟨h1, h2⟩ => ⟨h1, (T.l c l).mono hs h2⟩, fun _ h => h, fun _ h => h⟩
/-- The slice of a row of one's own. -/
def T.o (e : Nat) : T := ⟨[e], 1, false, fun β _ v => v = β e ∧ ∃ A n k, v = .slice A n k, fun ⟨_, A, n, k, e⟩ _ => by subst e; exact ⟨⟨rfl, rfl⟩, rfl⟩, fun _ h => h, fun hn ⟨h1, h2⟩ => ⟨by rw [hn _ List.mem_cons_self]; exact h1, h2⟩⟩
/-- A place in it: of element i. -/
def T.q (e off : Nat) : T := ⟨[e], 1, false, fun β _ v => ∃ b n k, β e = .slice (some ⟨b, 0, none⟩) n k ∧ v = pt b off, fun ⟨b, n, k, _, h⟩ _ => by subst h; exact ⟨⟨rfl, rfl⟩, rfl⟩, fun _ h => h, fun hn ⟨b, n, k, h1, h2⟩ => ⟨b, n, k, by rw [hn _ List.mem_cons_self]; exact h1, h2⟩⟩
theorem nil_l (c : Cod α) : (T.c (.slice none 0 0)).le (T.l c []) := fun β u v h => ⟨none, 0, 0, h, rfl, Nat.le_refl _, by omega, fun h => absurd h (by omega)⟩
end

/-- Blocks of S, known for good from now on. -/
noncomputable def solid (u w : World) (S : Nat → Prop) : World := by
  classical
  exact { w with heap := Array.ofFn (n := w.heap.size) fun b => if S b.val then w.heap[b] else (u.heap[b.val]?).getD (.cells #[] 0 (0, 0)) }
section
variable {u w : World} {S : Nat → Prop}
open Classical in
theorem solid_cell (hs : Sub u w) (a : Addr) : (solid u w S).cell? a = if S a.block then w.cell? a else u.cell? a := by
  by_cases hlt : a.block < w.heap.size
  · unfold World.cell? solid
    simp only [Array.getElem?_ofFn, hlt, dif_pos]
    by_cases hk : S a.block
    · simp [hk, Array.getElem?_eq_getElem hlt]
    · simp only [hk, if_false]
      cases hu : u.heap[a.block]? with
      | none => simp
      | some ob => simp
  · have h1 : (solid u w S).cell? a = none := cell_none (by unfold solid; simp; omega)
    have h2 : w.cell? a = none := cell_none (by omega)
    rw [h1, h2]
    split
    · rfl
    · cases hu : u.cell? a with
      | none => rfl
      | some v => rw [hs a v hu] at h2; cases h2
theorem solid_in (hs : Sub u w) {a : Addr} (h : S a.block) : (solid u w S).cell? a = w.cell? a := by rw [solid_cell hs, if_pos h]
theorem solid_out (hs : Sub u w) {a : Addr} (h : ¬ S a.block) : (solid u w S).cell? a = u.cell? a := by rw [solid_cell hs, if_neg h]
theorem solid_up (hs : Sub u w) (hd : ∀ k, S k → Dead u k) : Sub u (solid u w S) := fun a v hv => by
  rw [solid_out hs (fun h => by rw [hd _ h a rfl] at hv; cases hv)]; exact hv
theorem solid_sub (hs : Sub u w) : Sub (solid u w S) w := fun a v hv => by
  by_cases h : S a.block
  · rwa [solid_in hs h] at hv
  · rw [solid_out hs h] at hv; exact hs a v hv
theorem solid_dead (hs : Sub u w) {k : Nat} (hk : ¬ S k) (hd : Dead u k) : Dead (solid u w S) k := fun a ha => by
  rw [solid_out hs (by rw [ha]; exact hk)]; exact hd a ha
end
section
variable {α : Type} {c : Cod α} {β : Env} {u w : World} {F : FP}
/-- New memory that stands for good at once. -/
theorem after_solid {X : T} {v : Value} {cs : Array Value} {e : TypeId} (hs : Sub u w) (h : ∀ u', Sub u u' → (∀ j y, cs[j]? = some y → u'.cell? ⟨w.heap.size, j, none⟩ = some y) → X.rep β u' v) : After β u w F [] (lk []) [] X v (w.alloc (.cells cs e (0, 0))) := by
  have hs' : Sub u (w.alloc (.cells cs e (0, 0))) := (tr_alloc (C := fun _ => False) hs (.cells cs e (0, 0))).sub
  have hd : ∀ k, k = w.heap.size → Dead u k := fun k hk => dead_new hs (by omega)
  refine ⟨solid u (w.alloc (.cells cs e (0, 0))) (· = w.heap.size), β, F, fun _ _ => rfl, ⟨rfl, rfl, rfl, by simp, fun k hk _ => Below.heap_alloc _ _ _ hk, solid_up hs' hd, solid_sub hs', fun k hk _ h => solid_dead hs' (by omega) h⟩, Hold.none _ _ _ _, (fun e X k h => by cases h), h _ (solid_up hs' hd) (fun j y hy => ?_)⟩
  rw [solid_in (S := fun k => k = w.heap.size) hs' rfl]
  unfold World.cell?
  rw [heap_alloc_new]
  simpa using hy
/-- What append, make and stores leave of a row. -/
theorem after_row {w' : World} {e e' : Nat} {l l' : List α} {ty : TypeId} {v : Value} {N : List Nat} {R : T} (hH : Hold β u w F (lk [(e, Ent.row c ty l)])) (hs : Sub u w) (hg : w.grownBy w' (β e).ownBlock) (ho : ∃ xs, w'.ownsRow 0 ty c.sz v l'.length xs ∧ Els c l' u xs)
    (hv : v.ownBlock = (β e).ownBlock ∨ v.ownBlock = some w.heap.size) {β' : Env} (hb : ∀ f, f ∉ N → β' f = β f) (hv' : β' e' = v) {x : Value} (hR : R.rep β' u x) : After β u w F [e] (lk [(e', Ent.row c ty l')]) N R x w' := by
  obtain ⟨xs0, k1, k2, k3⟩ := hH.hold e _ lk1_same
  obtain ⟨xs, h1, h2⟩ := ho
  have hlt : ∀ k, v.ownBlock = some k → k < w'.heap.size := fun k hk => (h1.lt k hk).2
  refine ⟨u, β', fun _ k => v.ownBlock = some k, hb, ⟨hg.os, hg.tape, hg.output, hg.size, fun k hk hc => hg.block k hk (fun h => hc ⟨e, List.mem_cons_self, (k3 k).2 h.symm⟩), Sub.refl _, fun a y hy => hg.cell (hs a y hy) (fun h => ?_), fun _ _ _ h => h⟩,
    hold1 ⟨xs, by rw [hv']; exact h1, h2, fun k => by rw [hv']⟩ (fun k hk => ⟨?_, hlt k hk⟩), fun f X k h hk => ?_, hR⟩
  · have := (hH.dead e _ a.block lk1_same ((k3 _).2 h.symm)).1 a rfl
    rw [this] at hy; cases hy
  · rcases hv with h | h
    · exact (hH.dead e _ k lk1_same ((k3 k).2 (by rw [← h]; exact hk))).1
    · have : some k = some w.heap.size := by rw [← h]; exact hk.symm
      exact dead_new hs (by have := Option.some.inj this; omega)
  · rcases hv with h | h
    · exact .inl ⟨e, List.mem_cons_self, (k3 k).2 (by rw [← h]; exact hk)⟩
    · have : some k = some w.heap.size := by rw [← h]; exact hk.symm
      exact .inr (by have := Option.some.inj this; omega)
/-- A new row. -/
theorem after_newrow {w' : World} {e' : Nat} {l' : List α} {ty : TypeId} {v : Value} (hs : Sub u w) (hg : w.grownBy w' none) (ho : ∃ xs, w'.ownsRow 0 ty c.sz v l'.length xs ∧ Els c l' u xs)
    (hv : v.ownBlock = none ∨ v.ownBlock = some w.heap.size) (hsl : ∃ A n k, v = .slice A n k) : After β u w F [] (lk [(e', Ent.row c ty l')]) [e'] (T.o e') v w' := by
  obtain ⟨xs, h1, h2⟩ := ho
  have hlt : ∀ k, v.ownBlock = some k → k = w.heap.size ∧ k < w'.heap.size := fun k hk => ⟨by
    rcases hv with h | h
    · rw [h] at hk; cases hk
    · rw [h] at hk; exact (Option.some.inj hk).symm, (h1.lt k hk).2⟩
  refine ⟨u, setE β e' v, fun _ k => v.ownBlock = some k, fun f hf => setE_ne _ _ (by simpa using hf), ⟨hg.os, hg.tape, hg.output, hg.size, fun k hk _ => hg.block k hk (by simp), Sub.refl _, fun a y hy => hg.cell (hs a y hy) (by simp), fun _ _ _ h => h⟩,
    hold1 ⟨xs, by rw [setE_same]; exact h1, h2, fun k => by rw [setE_same]⟩ (fun k hk => ⟨dead_new hs (by have := (hlt k hk).1; omega), (hlt k hk).2⟩), fun f X k h hk => .inr (by have := (hlt k hk).1; omega), (setE_same _ _ _).symm, hsl⟩
end

/-- A slice's type, its elements' type, size, bytes and nought. -/
def SlT (P : Program) (t e : TypeId) (sz bytes : Nat) : Prop := P.underlying t = some (.slice e) ∧ ∃ z : Value, (P.info? e).map (fun i => (i.zero, i.size, i.bytes)) = some (some z, sz, bytes) ∧ z.cells.size = sz ∧ z.cells.toList.all Value.oneCell' = true
theorem SlT.mk {P : Program} {t e : TypeId} {sz bytes : Nat} (z : Value) (h1 : P.underlying t = some (.slice e) := by kernel_rfl) (h2 : (P.info? e).map (fun i => (i.zero, i.size, i.bytes)) = some (some z, sz, bytes) := by kernel_rfl) (h3 : z.cells.size = sz := by rfl) (h4 : z.cells.toList.all Value.oneCell' = true := by rfl) : SlT P t e sz bytes := ⟨h1, z, h2, h3, h4⟩
theorem SlT.info {P : Program} {t e : TypeId} {sz bytes : Nat} (h : SlT P t e sz bytes) : P.underlying t = some (.slice e) ∧ ∃ inf z, P.info? e = some inf ∧ inf.zero = some z ∧ inf.size = sz ∧ inf.bytes = bytes ∧ z.cells.size = sz := by
  obtain ⟨ht, z, hz, hzc, _⟩ := h
  obtain ⟨inf, hi, hzz⟩ := Option.map_eq_some_iff.1 hz
  simp only [Prod.mk.injEq] at hzz
  exact ⟨ht, inf, z, hi, hzz.1, hzz.2.1, hzz.2.2, hzc⟩
section
variable {α : Type} {c : Cod α} {P : Program} {u w : World} {t e : TypeId} {bytes : Nat}
/-- append(row, slice...). -/
theorem run_append (hT : SlT P t e c.sz bytes) {v y : Value} {l ys : List α} {xs : List Value} {ty : TypeId} (hown : w.ownsRow 0 e c.sz v l.length xs) (hE : Els c l u xs) (hy : (T.l c ys).rep B0 u y) (hs : Sub u w) (hb : (l.length + ys.length) * bytes ≤ 140737488355328) (h0 : 0 < bytes) :
    ∃ v' w', (Builtin.append_ #[t, t] ty #[v, y]).run P w = .ok v' w' ∧ (∃ xs', w'.ownsRow 0 e c.sz v' (l ++ ys).length xs' ∧ Els c (l ++ ys) u xs') ∧ w.grownBy w' v.ownBlock ∧ (v'.ownBlock = v.ownBlock ∨ v'.ownBlock = some w.heap.size) ∧ ∃ A n k, v' = .slice A n k := by
  obtain ⟨ht, inf, z, hi, hz0, hz1, hz2, hzc⟩ := hT.info
  obtain ⟨A, n, k, ey, hn, hnk, hk, hcell⟩ := hy
  subst ey
  have hv : ∃ B n cp, v = .slice B n cp ∧ n ≤ cp := by
    rcases hown.2 with ⟨ev, hn⟩ | ⟨g, cap, cur, ev, _, _, hc1, _⟩
    · exact ⟨none, 0, 0, ev, Nat.le_refl _⟩
    · exact ⟨_, _, _, ev, hc1⟩
  rcases Nat.eq_zero_or_pos n with h | h
  · subst h
    have hys : ys = [] := List.eq_nil_of_length_eq_zero hn
    subst hys
    obtain ⟨B, nb, cp, ev, hle⟩ := hv
    refine ⟨v, w, ?_, ⟨xs, by simpa using hown, by simpa using hE⟩, ⟨rfl, rfl, rfl, Nat.le_refl _, fun _ _ _ => rfl⟩, .inl rfl, B, nb, cp, ev⟩
    subst ev
    cases B <;> cases A <;> simp [Builtin.append_, run_underlying ht, sizeOf, typeInfo, hi, Builtin.lenOf, hle, Builtin.firstCells, storeCells, loadCells, loadCellsFrom]
  · obtain ⟨ad, ea, zs, hEy, hst⟩ := hcell h
    subst ea
    have hm : l.length + n ≤ maxLen := by
      have := Nat.le_trans (Nat.le_mul_of_pos_right _ h0) hb
      unfold maxLen; omega
    obtain ⟨v', w', hr, h2, h3, _, h5⟩ := run_append_own_at (P := P) w 0 t ty e inf z c.sz bytes ht hi hz0 hz1 hz2 hzc (Nat.pos_of_ne_zero c.pos) v l.length xs hown ad n k zs (by rw [hEy.len, hn]) (fun j y hy => hs _ _ (hst j y hy)) hEy.one hm (by rw [← hn]; exact hb) (Nat.zero_le _)
    refine ⟨v', w', hr, ⟨xs ++ zs, by rw [List.length_append, hn]; exact h2, hE.append hEy⟩, h3, h5, ?_⟩
    rcases h2.2 with ⟨ev, _⟩ | ⟨g, cap, cur, ev, _⟩
    · exact ⟨_, _, _, ev⟩
    · exact ⟨_, _, _, ev⟩
end

/-! ### steps -/
/-- A slice of these things. -/
class IsL {α : Type} (X : T) (c : Cod α) (l : outParam (List α)) : Prop where le : X.le (T.l c l)
instance {α : Type} (c : Cod α) (l : List α) : IsL (T.l c l) c l := ⟨.refl _⟩
instance {α : Type} (c : Cod α) : IsL (T.c (.slice none 0 0)) c [] := ⟨nil_l c⟩
/-- A slice that stands, as it is told. -/
class IsI {α : outParam Type} (X : T) (c : outParam (Cod α)) (l : outParam (List α)) : Prop where le : X.le (T.l c l)
instance {α : Type} (c : Cod α) (l : List α) : IsI (T.l c l) c l := ⟨.refl _⟩
section
variable {P : Program} {ops : Array Oper} {fin : List OpS → List (Nat × T) → List (Nat × Option Ent) → Prop} {r : List Oper} {H : List OpS} {g : List (Nat × T)} {E : List (Nat × Option Ent)} {o : Oper}
variable {t : Option Nat} {ty : TypeId} {ps : String} {af : Array Edge} {gd : Option (Nat × Bool)} {x y : Operand} {X Y : T} {e off m : Nat} {b : Bool} {l l' : List T} {et : TypeId}
variable {α : Type} {c : Cod α} {xs ys : List α} {tys : Array TypeId}
theorem run_len {A : Option Addr} {n k : Nat} {ρ : Operand → Value} {w : World} {τ : TypeId} {sz bytes : Nat} (hT : SlT P et τ sz bytes) (hx : ρ x = .slice A n k) : (execOp ρ ⟨t, .call ⟨.builtin .len, #[x], #[et]⟩, ty, ps, af, gd⟩).run P w = .ok (.value (.int .i64 (n : Int))) w := by
  simp [execOp, resolve, invoke, builtin, hx, Builtin.len_, Builtin.lenOf, goInt, run_underlying hT.1]
/-- A slice of so many. -/
class IsS (X : T) (n : outParam Nat) : Prop where le : ∀ β u v, X.rep β u v → ∃ A k, v = .slice A n k
instance {α : Type} (c : Cod α) (l : List α) : IsS (T.l c l) l.length := ⟨fun β u v ⟨A, n, k, h1, h2, _⟩ => ⟨A, k, by rw [h2]; exact h1⟩⟩
instance (A : Option Addr) (n k : Nat) : IsS (T.c (.slice A n k)) n := ⟨fun β u v h => ⟨A, k, h⟩⟩
/-- len of a slice that stands. -/
theorem ln {τ : TypeId} {sz bytes n : Nat} (hT : SlT P et τ sz bytes) [hl : IsS X n] (hX : envl g x = some X) (hn : J P ops fin r (OpS.p (T.c (.int .i64 (n : Int))) :: H) (putg t (T.c (.int .i64 (n : Int))) g) E) (hg : GuardIs ops g ⟨t, .call ⟨.builtin .len, #[x], #[et]⟩, ty, ps, af, gd⟩ true := by exact gd0) : J P ops fin (⟨t, .call ⟨.builtin .len, #[x], #[et]⟩, ty, ps, af, gd⟩ :: r) H g E :=
  j_val hg (ok_pure fun ρ β u w F hs he hH => by
    obtain ⟨A, k, h1⟩ := hl.le _ _ _ (he x (by simp [Op.operands, Call.operands]) _ hX)
    exact ⟨_, run_len hT h1, rfl⟩) hn
/-- len of a row of one's own. -/
theorem lno {τ τ' : TypeId} {sz bytes : Nat} (hT : SlT P et τ' sz bytes) (hX : envl g x = some (T.o e)) (hE : lkE E e = some (Ent.row c τ xs)) (hn : J P ops fin r (⟨[e], [], [], [], T.c (.int .i64 (xs.length : Int))⟩ :: H) (putg t (T.c (.int .i64 (xs.length : Int))) g) E) (hg : GuardIs ops g ⟨t, .call ⟨.builtin .len, #[x], #[et]⟩, ty, ps, af, gd⟩ true := by exact gd0) : J P ops fin (⟨t, .call ⟨.builtin .len, #[x], #[et]⟩, ty, ps, af, gd⟩ :: r) H g E :=
  j_use hE hg (fun ρ β u w F hs he hH => by
    obtain ⟨h1, A, n, k, h2⟩ := he x (by simp [Op.operands, Call.operands]) _ hX
    obtain ⟨zs, k1, k2, k3⟩ := hH.hold e _ lk1_same
    have hnn : n = xs.length := by
      rcases k1.2 with ⟨ev, hn⟩ | ⟨q, cap, cur, ev, _⟩
      · rw [← h1, h2] at ev; cases ev; omega
      · rw [← h1, h2] at ev; cases ev; rfl
    unfold Res
    rw [run_len hT h2]
    exact after_pure hs (by rw [hnn]; rfl)) hn
theorem run_index {ρ : Operand → Value} {w : World} {τ : TypeId} {bytes sz : Nat} {ad : Addr} {n k : Nat} {kk : IntKind} {i : Nat} (hT : SlT P et τ sz bytes) (hx : ρ x = .slice (some ad) n k) (hy : ρ y = .int kk (i : Int)) (h1 : i < n) : (execOp ρ ⟨t, .indexAddr et x y, ty, ps, af, gd⟩).run P w = .ok (.value (.pointer (some (ad.add (i * sz))))) w := by
  obtain ⟨ht, inf, z, hi, hz0, hz1, hz2, hzc⟩ := hT.info
  have h0 : (0 : Int) ≤ (i : Int) := by omega
  have h2 : ((i : Int)) < (n : Int) := by omega
  simp [execOp, hx, hy, Instr.indexAt, asIntOf, run_underlying ht, h0, h2, sizeOf, typeInfo, hi, hz1, h1]
theorem Stand.at {u : World} {ad : Addr} {zs p q : List Value} {v : Value} {n : Nat} (h : Stand u ad zs) (e : zs = p ++ v.cells.toList ++ q) (hp : p.length = n) : Stand u (ad.add n) v.cells.toList := fun j y hy => by
  have := h (n + j) y (by rw [e, List.append_assoc, List.getElem?_append_right (by omega), hp, Nat.add_sub_cancel_left, List.getElem?_append_left (List.getElem?_eq_some_iff.1 hy).1]; exact hy)
  rwa [show (ad.add n).add j = ad.add (n + j) from by
    unfold Addr.add
    by_cases h1 : n = 0 <;> by_cases h2 : j = 0 <;> simp [h1, h2] <;> omega]
/-- An element's place: of a slice that stands. -/
theorem ix {τ : TypeId} {bytes i : Nat} {kk : IntKind} {z : Int} [hl : IsI X c xs] (hX : envl g x = some X) (hY : envl g y = some (T.c (.int kk z))) (hT : SlT P et τ c.sz bytes) (hi : z = (i : Int) ∧ i < xs.length) (hn : J P ops fin r (OpS.p (T.fp (c.X (xs.getD i c.dflt))) :: H) (putg t (T.fp (c.X (xs.getD i c.dflt))) g) E) (hg : GuardIs ops g ⟨t, .indexAddr et x y, ty, ps, af, gd⟩ true := by exact gd0) : J P ops fin (⟨t, .indexAddr et x y, ty, ps, af, gd⟩ :: r) H g E :=
  j_val hg (ok_pure fun ρ β u w F hs he hH => by
    obtain ⟨A, n, k, h1, h2, h3, h4, h5⟩ := hl.le _ _ _ (he x (by simp [Op.operands]) _ hX)
    have hy : ρ y = .int kk (i : Int) := by rw [← hi.1]; exact he y (by simp [Op.operands]) _ hY
    obtain ⟨ad, rfl, zs, hE, hst⟩ := h5 (by omega)
    have hx : xs[i]? = some (xs.getD i c.dflt) := by rw [List.getD_eq_getElem?_getD, List.getElem?_eq_getElem hi.2]; rfl
    obtain ⟨p, v, q, e1, hp, hv, _⟩ := hE.at hx
    exact ⟨_, run_index hT h1 hy (by omega), _, v, rfl, by rw [c.sz0]; exact c.pos, c.any hv, hst.at e1 hp⟩) hn
/-- A load of what stands for good. -/
theorem lf {ty' : TypeId} (hX : envl g x = some (T.fp X)) (hT : Ty P ty' b m) (hn : J P ops fin r (OpS.p X :: H) (putg t X g) E) (hm : X.sz = m ∧ X.ag = b := by exact ⟨rfl, rfl⟩) (h1 : (b || m == 1) = true := by rfl) (hg : GuardIs ops g ⟨t, .load ty' x, ty, ps, af, gd⟩ true := by exact gd0) : J P ops fin (⟨t, .load ty' x, ty, ps, af, gd⟩ :: r) H g E :=
  j_val hg (ok_pure fun ρ β u w F hs he hH => by
    obtain ⟨ad, v, h2, h0, h3, h4⟩ := he x (by simp [Op.operands]) _ hX
    obtain ⟨hf, hv⟩ := X.shp h3 h0
    have hlen : v.cells.toList.length = m := by rw [← hm.1]; exact hf.1
    have := run_loadAt (P := P) (w := w) (ad := ad) (vs := v.cells.toList) (by rw [hlen]; exact hT) (fun j y hy => hs _ _ (h4 j y hy)) (by rw [hlen]; exact ty_one hT h1)
    refine ⟨v, ?_, h3⟩
    rw [hm.2] at hv
    rw [← hv] at this
    simp only [execOp, h2, Instr.loadAt, Instr.sureAddr, Sem.run_bind, Result.andThen_ok, Sem.run_pure, this]) hn
/-- append to a row of one's own. -/
theorem ap {τ : TypeId} {bytes : Nat} (e' : Nat) [hl : IsL Y c ys] (hX : envl g x = some (T.o e)) (hE : lkE E e = some (Ent.row c τ xs)) (hY : envl g y = some Y) (hT : SlT P et τ c.sz bytes) (hb : (xs.length + ys.length) * bytes ≤ 140737488355328) (h0 : 0 < bytes)
    (hn : J P ops fin r (⟨[], [e], [(e', Ent.row c τ (xs ++ ys))], [e'], T.o e'⟩ :: H) (putg t (T.o e') g) ((e', some (Ent.row c τ (xs ++ ys))) :: (e, none) :: E)) (hne : Nat.beq e' e = false := by rfl) (hg : GuardIs ops g ⟨t, .call ⟨.builtin .append, #[x, y], #[et, et]⟩, ty, ps, af, gd⟩ true := by exact gd0) : J P ops fin (⟨t, .call ⟨.builtin .append, #[x, y], #[et, et]⟩, ty, ps, af, gd⟩ :: r) H g E := by
  have hne' : e' ≠ e := fun h => by subst h; simp at hne
  refine ⟨⟨[], [e], [(e', Ent.row c τ (xs ++ ys))], [e'], T.o e'⟩, (e', some (Ent.row c τ (xs ++ ys))) :: (e, none) :: E, .inl ⟨hg, fun f he => ⟨Ent.row c τ xs, by rw [show f = e from by simpa using he]; exact hE⟩, ?_⟩, fun f => ?_, hn⟩
  · have : (fun f => if f ∈ (OpS.mk [] [e] [(e', Ent.row c τ (xs ++ ys))] [e'] (T.o e')).uses ++ (OpS.mk [] [e] [(e', Ent.row c τ (xs ++ ys))] [e'] (T.o e')).cons then lkE E f else none) = lk [(e, Ent.row c τ xs)] := funext fun f => by
      rw [lk_cons]
      by_cases h : e = f
      · subst h; rw [if_pos (by simp), if_pos rfl, hE]
      · rw [if_neg (by simp; exact fun h' => h h'.symm), if_neg h]; rfl
    rw [this]
    intro ρ β u w F hs he hH
    obtain ⟨h1, A, n, k, h2⟩ := he x (by simp [Op.operands, Call.operands]) _ hX
    have hy := (T.l c ys).ext (β' := B0) (fun _ h => by cases h) (hl.le _ _ _ (he y (by simp [Op.operands, Call.operands]) _ hY))
    obtain ⟨zs, k1, k2, k3⟩ := hH.hold e _ lk1_same
    rw [← h1] at k1
    obtain ⟨v', w', hr, ho, hgw, hv, hsl⟩ := run_append (ty := ty) hT k1 k2 hy hs hb h0
    unfold Res
    simp only [execOp, resolve, invoke, builtin, Sem.run_bind, Sem.run_pure, Result.andThen_ok, List.map_toArray, List.map_cons, List.map_nil, hr]
    exact after_row hH hs (by rw [← h1]; exact hgw) ho (by rw [← h1]; exact hv) (β' := setE β e' v') (fun f hf => setE_ne _ _ (by simpa using hf)) (setE_same _ _ _) ⟨(setE_same _ _ _).symm, hsl⟩
  · unfold lkE OpS.upd
    rw [lk_cons, lk_cons, lk_cons]
    by_cases h : e' = f
    · rw [if_pos h, if_pos h]; rfl
    · rw [if_neg h, if_neg h]
      show _ = if [e].contains f then none else _
      by_cases h2 : e = f
      · subst h2; simp
      · rw [if_neg h2, if_neg (by simpa using fun h3 => h2 h3.symm)]
/-- An element's place: of a row of one's own. -/
theorem ixo {τ : TypeId} {bytes i : Nat} {kk : IntKind} {z : Int} (hX : envl g x = some (T.o e)) (hE : lkE E e = some (Ent.row c τ xs)) (hY : envl g y = some (T.c (.int kk z))) (hT : SlT P et τ c.sz bytes) (hi : z = (i : Int) ∧ i < xs.length) (hn : J P ops fin r (⟨[e], [], [], [], T.q e (i * c.sz)⟩ :: H) (putg t (T.q e (i * c.sz)) g) E) (hg : GuardIs ops g ⟨t, .indexAddr et x y, ty, ps, af, gd⟩ true := by exact gd0) : J P ops fin (⟨t, .indexAddr et x y, ty, ps, af, gd⟩ :: r) H g E :=
  j_use hE hg (fun ρ β u w F hs he hH => by
    obtain ⟨h1, A, n, k, h2⟩ := he x (by simp [Op.operands]) _ hX
    have hy : ρ y = .int kk (i : Int) := by rw [← hi.1]; exact he y (by simp [Op.operands]) _ hY
    obtain ⟨zs, k1, k2, k3⟩ := hH.hold e _ lk1_same
    rcases k1.2 with ⟨ev, hn⟩ | ⟨q, cap, cur, ev, _⟩
    · omega
    · have hx : ρ x = .slice (some ⟨q, 0, none⟩) xs.length cap := by rw [h1, ev]
      unfold Res
      rw [run_index hT hx hy hi.2]
      exact after_pure hs ⟨q, _, _, ev, by rw [add_none, Nat.zero_add]⟩) hn
theorem row_cells {w : World} {q n cap sz : Nat} {τ : TypeId} {zs p v s : List Value} (h : w.ownsRow 0 τ sz (.slice (some ⟨q, 0, none⟩) n cap) n zs) (e : zs = p ++ v ++ s) {i : Nat} (hp : p.length = i * sz) : ∀ j y, v[j]? = some y → w.cell? ((⟨q, i * sz, none⟩ : Addr).add j) = some y := fun j y hy => by
  have := h.cells (g := q) rfl (i * sz + j) y (by rw [e, List.append_assoc, List.getElem?_append_right (by omega), hp, Nat.add_sub_cancel_left, List.getElem?_append_left (List.getElem?_eq_some_iff.1 hy).1]; exact hy)
  rw [add_none, Nat.zero_add] at this
  rw [add_none]
  exact this
/-- A load out of a row of one's own. -/
theorem lo {ty' τ : TypeId} {i : Nat} (i' : Nat) (hX : envl g x = some (T.q e off)) (hE : lkE E e = some (Ent.row c τ xs)) (hT : Ty P ty' b m) (hi : off = i * c.sz ∧ i = i' ∧ i < xs.length) (hn : J P ops fin r (⟨[e], [], [], [], c.X (xs.getD i' c.dflt)⟩ :: H) (putg t (c.X (xs.getD i' c.dflt)) g) E) (hm : c.sz = m ∧ (c.X (xs.getD i' c.dflt)).ag = b := by exact ⟨rfl, rfl⟩) (h1 : (b || m == 1) = true := by rfl) (hg : GuardIs ops g ⟨t, .load ty' x, ty, ps, af, gd⟩ true := by exact gd0) : J P ops fin (⟨t, .load ty' x, ty, ps, af, gd⟩ :: r) H g E := by
  obtain ⟨rfl, rfl, hi⟩ := hi
  exact j_use hE hg (fun ρ β u w F hs he hH => by
    obtain ⟨q, n, k, h2, h3⟩ := he x (by simp [Op.operands]) _ hX
    obtain ⟨zs, k1, k2, k3⟩ := hH.hold e _ lk1_same
    have hx : xs[i]? = some (xs.getD i c.dflt) := by rw [List.getD_eq_getElem?_getD, List.getElem?_eq_getElem hi]; rfl
    obtain ⟨p, v, s, e1, hp, hv, _⟩ := k2.at hx
    have hnn : n = xs.length := by
      rcases k1.2 with ⟨ev, hn⟩ | ⟨q', cap, cur, ev, _⟩
      · omega
      · rw [h2] at ev; cases ev; rfl
    subst hnn
    rw [h2] at k1
    obtain ⟨hf, hva⟩ := (c.X (xs.getD i c.dflt)).shp hv (by rw [c.sz0]; exact c.pos)
    have hlen : v.cells.toList.length = m := by rw [hf.1, c.sz0]; exact hm.1
    have := run_loadAt (P := P) (w := w) (ad := ⟨q, i * c.sz, none⟩) (vs := v.cells.toList) (by rw [hlen]; exact hT) (row_cells k1 e1 hp) (by rw [hlen]; exact ty_one hT h1)
    rw [hm.2] at hva
    rw [← hva] at this
    unfold Res
    simp only [execOp, h3, Instr.loadAt, Instr.sureAddr, Sem.run_bind, Result.andThen_ok, Sem.run_pure, this]
    exact after_pure hs (c.any hv)) hn
/-- A store into a row of one's own. -/
theorem so {ty' τ : TypeId} {i : Nat} {a : α} (hX : envl g x = some (T.q e off)) (hE : lkE E e = some (Ent.row c τ xs)) (hY : envl g y = some Y) (hle : Y.le (c.X a)) (hT : Ty P ty' b m) (hi : off = i * c.sz ∧ i < xs.length) (hn : J P ops fin r (⟨[], [e], [(e, Ent.row c τ (xs.set i a))], [], T.c undef⟩ :: H) (putg t (T.c undef) g) ((e, some (Ent.row c τ (xs.set i a))) :: E)) (hm : c.sz = m := by rfl) (hg : GuardIs ops g ⟨t, .store ty' x y, ty, ps, af, gd⟩ true := by exact gd0) : J P ops fin (⟨t, .store ty' x y, ty, ps, af, gd⟩ :: r) H g E := by
  obtain ⟨rfl, hi⟩ := hi
  exact j_set hE hg (fun ρ β u w F hs he hH => by
    obtain ⟨q, n, k, h2, h3⟩ := he x (by simp [Op.operands]) _ hX
    have hy := c.any (β' := B0) (hle _ _ _ (he y (by simp [Op.operands]) _ hY))
    have hyf := ((c.X a).shp hy (by rw [c.sz0]; exact c.pos)).1
    rw [c.sz0, hm] at hyf
    obtain ⟨zs, k1, k2, k3⟩ := hH.hold e _ lk1_same
    have hx : xs[i]? = some (xs.getD i c.dflt) := by rw [List.getD_eq_getElem?_getD, List.getElem?_eq_getElem hi]; rfl
    obtain ⟨p, v, s, e1, hp, hv, hset⟩ := k2.at hx
    have hvl : v.cells.toList.length = m := by rw [((c.X _).shp hv (by rw [c.sz0]; exact c.pos)).1.1, c.sz0]; exact hm
    rw [h2] at k1
    rcases k1.2 with ⟨ev, _⟩ | ⟨q', cap, cur, ev, hg0, hh, hc1, hc2, hc3, hc4⟩
    · cases ev
    · cases ev
      have hcur : cur = cur.toList.toArray := by simp
      rw [hcur] at hh
      have hin : i * c.sz + m ≤ cur.toList.length := by
        have : (i + 1) * c.sz ≤ k * c.sz := Nat.mul_le_mul_right _ (by omega)
        rw [Nat.add_mul] at this
        simp [hc3]; omega
      have hst := run_store (P := P) (w := w) (off := i * c.sz) hh hT hyf hin
      have hq : F e q := (k3 q).2 (by rw [h2]; rfl)
      have hd := (hH.dead e _ q lk1_same hq).1
      unfold Res
      simp only [execOp, h3, Sem.run_bind, hst, Result.andThen_ok, Sem.run_pure]
      refine ⟨u, β, F, fun _ _ => rfl, tr_setRow hs ⟨e, List.mem_cons_self, hq⟩ hd, hold1 ⟨p ++ (ρ y).cells.toList ++ s, ?_, hset a _ hy, k3⟩ (fun k hk => ?_), fun f Z k h hk => .inl ⟨e, List.mem_cons_self, ?_⟩, rfl⟩
      · rw [h2, List.length_set]
        have hlen : (p ++ (ρ y).cells.toList ++ s).length = zs.length := by rw [e1]; simp only [List.length_append, hyf.1, hvl]
        refine ⟨by rw [hlen]; exact k1.1, .inr ⟨q, k, _, rfl, Nat.zero_le _, setRow_heap _ _ _ _ _ _ hh, hc1, hc2, ?_, ?_⟩⟩
        · unfold patch
          simp only [List.size_toArray, List.length_append, List.length_take, List.length_drop, hyf.1]
          simp only [Array.length_toList] at hin ⊢
          omega
        · have hcl : cur.toList.length = k * c.sz := by simpa using hc3
          have hnl : xs.length * c.sz = zs.length := k1.1.symm
          have hzl : zs.length = p.length + m + s.length := by rw [e1]; simp only [List.length_append, hvl]
          have hle' : xs.length * c.sz ≤ k * c.sz := Nat.mul_le_mul_right _ hc1
          have hpre : cur.toList = zs ++ cur.toList.drop (xs.length * c.sz) := by rw [← hc4]; exact (List.take_append_drop _ _).symm
          show (patch cur.toList (i * c.sz) (ρ y).cells.toList).take (xs.length * c.sz) = _
          rw [hpre, e1, hnl, hzl, ← hp]
          generalize List.drop (p.length + m + s.length) cur.toList = D
          unfold patch
          rw [hyf.1, show p ++ v.cells.toList ++ s ++ D = (p ++ v.cells.toList) ++ (s ++ D) by simp, List.drop_left' (by rw [List.length_append, hvl]), List.append_assoc p, List.take_left' rfl, ← List.append_assoc, List.take_left' (by simp only [List.length_append, hyf.1])]
      · obtain ⟨m1, m2⟩ := hH.dead e _ k lk1_same hk
        exact ⟨m1, by simpa using m2⟩
      · obtain ⟨rfl, _⟩ := lk1 h; exact hk) hn
end
end Go.Proofs.Ytlmiadjogdfjkaa.V
