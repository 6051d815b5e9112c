/- A logic for regions whose order is open: boxes that are written to no more, closures, slices cut. -/
import Derived.Test.YtaagioghkicdkaaUI
set_option linter.unusedVariables false
set_option linter.unusedSimpArgs false
namespace Go.Proofs.Ytaagioghkicdkaa
open Go.RowKit Go.Proofs.YtaagioghkicdkaaW.PrintWords Mt

/-- A block whose cells are known for good. -/
def Kn (u : World) (b : Nat) (cs : List Value) : Prop := ∀ j v, cs[j]? = some v → u.cell? ⟨b, j, none⟩ = some v
theorem Kn.sub {u w : World} {b : Nat} {cs : List Value} (h : Kn u b cs) (hs : Sub u w) : Kn w b cs := fun j v hv => hs _ _ (h j v hv)
theorem kn_at {u : World} {b : Nat} {cs : List Value} (off m : Nat) (h : Kn u b cs) : ∀ j v, ((cs.drop off).take m)[j]? = some v → u.cell? ((⟨b, off, none⟩ : Addr).add j) = some v := fun j v hv => by
  rw [add_none]
  refine h _ _ ?_
  rw [List.getElem?_take] at hv
  split at hv
  · rw [List.getElem?_drop] at hv; exact hv
  · cases hv
section
variable {P : Program} {Q : Exit → Act → World → Prop} {n : Nat} {w0 u : World} {g : List (Nat × Value)} {bx : List Box} {rw : List Row}
/-- A box is written to no more. -/
theorem tri_seal {c : Code} (k : Nat) {b : Box} (hk : bx[k]? = some b) (h : ∀ u', Gr w0.heap.size u u' → Kn u' b.blk b.cs → Tri P c Q n w0 g (bx.eraseIdx k) rw u') : Tri P c Q n w0 g bx rw u := fun a w hF hS => by
  obtain ⟨hbase, hgd, hh⟩ := hS.box k b hk
  have herase : ∀ i r, (bx.eraseIdx k)[i]? = some r → ∃ i', i' ≠ k ∧ bx[i']? = some r ∧ (i < k → i' = i) ∧ (¬ i < k → i' = i + 1) := fun i r hi => by
    rw [List.getElem?_eraseIdx] at hi
    split at hi
    · rename_i hl; exact ⟨i, by omega, hi, fun _ => rfl, fun h => absurd hl h⟩
    · rename_i hl; exact ⟨i + 1, by omega, hi, fun h => absurd h hl, fun _ => rfl⟩
  have hsu : Sub u (solid u w b.blk) := fun a y hy => by
    rw [solid_cell hS.sub, if_neg (fun e => by rw [hgd a e] at hy; cases hy)]; exact hy
  have hsw : Sub (solid u w b.blk) w := fun a y hy => by
    rw [solid_cell hS.sub] at hy
    split at hy
    · exact hy
    · exact hS.sub a y hy
  have hdd : ∀ p, p ≠ b.blk → Dead u p → Dead (solid u w b.blk) p := fun p hp hd a ha => by
    rw [solid_cell hS.sub, if_neg (by omega)]; exact hd a ha
  refine h (solid u w b.blk) ⟨hsu, fun p hp hd => hdd p (by omega) hd⟩ (fun j v hv => ?_) a w hF ⟨hS.below, hsw, fun i j b1 b2 hi hj e => ?_, fun i b1 hb => ?_, fun i r hi => ?_, fun i j r b1 hi hj => ?_, hS.rrw⟩
  · rw [solid_cell hS.sub, if_pos rfl]
    unfold World.cell?
    rw [hh]
    simpa using hv
  · obtain ⟨i', _, hi', a1, a2⟩ := herase i b1 hi
    obtain ⟨j', _, hj', c1, c2⟩ := herase j b2 hj
    have := hS.inj i' j' b1 b2 hi' hj' e
    by_cases h1 : i < k <;> by_cases h2 : j < k
    · have := a1 h1; have := c1 h2; omega
    · have := a1 h1; have := c2 h2; omega
    · have := a2 h1; have := c1 h2; omega
    · have := a2 h1; have := c2 h2; omega
  · obtain ⟨i', hne, hi', _⟩ := herase i b1 hb
    obtain ⟨k1, k2, k3⟩ := hS.box i' b1 hi'
    exact ⟨k1, hdd _ (fun e => hne (hS.inj i' k b1 b hi' hk e)) k2, k3⟩
  · obtain ⟨⟨ys, m1, m2⟩, m3⟩ := hS.row i r hi
    exact ⟨⟨ys, m1, r.mono _ _ _ hsu m2⟩, fun p hp => hdd p (fun e => hS.rbx i k r b hi hk (by rw [hp, e])) (m3 p hp)⟩
  · obtain ⟨j', _, hj', _⟩ := herase j b1 hj; exact hS.rbx i j' r b1 hi hj'
end
section
variable {P : Program} {R : Reg} {w0 u0 : World} {i : Nat} {o : Oper}
/-- The first of two results, known. -/
theorem ex2d (j : Nat) {c : Value} {T : World → Value → Prop} {x : Operand} (h1 : R.dep j i = true := by kernel_rfl) (h2 : R.ks[j]? = some (.opq (Tup2 (Is c) T)) := by rfl) (ho : o.op = .extract x 0 := by rfl) (hx : ∀ f, R.ev i f x = f j := by intro f; kernel_rfl) : R.Ob P w0 u0 i o (.con c) := fun f u w hs => by
  obtain ⟨a, b, e, p, q⟩ := hs.opq j _ h1 h2
  rw [show c = a from p.symm]
  exact .inl (ob_ext ho ((hx f).trans e) rfl)
/-- xs[:m]. -/
theorem slH {t e : TypeId} {sz bytes : Nat} {A : Option Addr} {n c : Nat} {m : Nat} {kk : IntKind} {x y : Operand} (hT : SlT P t e sz bytes) (hm : m ≤ c) (ho : o.op = .slice t x none (some y) none := by rfl) (hx : ∀ f, R.ev i f x = .slice A n c := by intro f; kernel_rfl) (hy : ∀ f, R.ev i f y = .int kk (m : Int) := by intro f; kernel_rfl) : R.Ob P w0 u0 i o (.con (.slice A m c)) := fun f u w hs => .inl (by
  obtain ⟨ht, z, hz, hzc⟩ := hT
  obtain ⟨inf, hi, hzz⟩ := Option.map_eq_some_iff.1 hz
  simp only [Prod.mk.injEq] at hzz
  have h1 : (0 : Int) ≤ m ∧ (m : Int) ≤ c := by omega
  cases A with
  | none => simp [execOp, ho, Instr.sliceAt, Instr.slice, hx f, hy f, run_underlying ht, Instr.sliceBounds, Instr.sliceBound, asIntOf, h1, sizeOf, typeInfo, hi, hzz.2.1] <;> omega
  | some a =>
    by_cases hc : c = 0
    · simp [execOp, ho, Instr.sliceAt, Instr.slice, hx f, hy f, run_underlying ht, Instr.sliceBounds, Instr.sliceBound, asIntOf, h1, sizeOf, typeInfo, hi, hzz.2.1, hc] <;> omega
    · simp [execOp, ho, Instr.sliceAt, Instr.slice, hx f, hy f, run_underlying ht, Instr.sliceBounds, Instr.sliceBound, asIntOf, h1, sizeOf, typeInfo, hi, hzz.2.1, hc, Addr.add] <;> omega)
end
section
variable {α : Type} {d : World → α → List Value → Prop} {sz : Nat} {hd : DK d sz} {P : Program} {R : Reg} {w0 u0 : World} {i : Nat} {o : Oper}
/-- append(row, nothing...), of whatever slice. -/
theorem apE (k : Nat) {t e : TypeId} {bytes : Nat} {v0 : (Nat → Value) → Value} {l : List α} {s x : Operand} {A : Option Addr} {c : Nat} (hT : SlT P t e sz bytes) (hk : ∀ f, R.visr i f k = some (rowE hd (v0 f) e l)) (ho : o.op = .call { callee := .builtin .append, args := #[s, x], argTypes := #[t, t] } := by rfl) (hs : ∀ f, R.ev i f s = v0 f := by intro f; kernel_rfl) (hx : ∀ f, R.ev i f x = .slice A 0 c := by intro f; kernel_rfl) :
    R.Ob P w0 u0 i o (.rop k fun v => rowE hd v e l) := fun f u w hse r0 hr0 => by
  rw [hk f] at hr0
  cases hr0
  obtain ⟨ht, z, hz, hzc⟩ := hT
  obtain ⟨inf, hi, hzz⟩ := Option.map_eq_some_iff.1 hz
  simp only [Prod.mk.injEq] at hzz
  obtain ⟨hz0, hz1, hz2⟩ := hzz
  obtain ⟨xs, hown, hS⟩ := hse.row k _ (hk f)
  have hv : ∃ B n cp, v0 f = .slice B n cp ∧ n ≤ cp := by
    rcases hown.2 with ⟨ev, hn⟩ | ⟨g, cap, cur, ev, _, _, hc1, _⟩
    · exact ⟨none, 0, 0, ev, Nat.le_refl _⟩
    · exact ⟨_, _, _, ev, hc1⟩
  obtain ⟨B, n, cp, ev, hle⟩ := hv
  refine ⟨v0 f, w, ?_, ⟨rfl, rfl, rfl, Nat.le_refl _, fun _ _ _ => rfl⟩, rfl, ⟨xs, hown, hS⟩, .inl rfl⟩
  unfold execOp
  cases B <;> cases A <;> simp [ho, resolve, invoke, builtin, hs f, ev, hx f, Builtin.append_, run_underlying ht, sizeOf, typeInfo, hi, Builtin.lenOf, hle, Builtin.firstCells, storeCells, loadCells, loadCellsFrom]
/-- append(row, a slice that is known...). -/
theorem apA (k : Nat) {t e : TypeId} {bytes : Nat} {v0 : (Nat → Value) → Value} {l ys : List α} {s x : Operand} {y : Value} (hT : SlT P t e sz bytes) (hk : ∀ f, R.visr i f k = some (rowE hd (v0 f) e l)) (hy : Sl d u0 y ys)
    (hb : (l.length + ys.length) * bytes ≤ 140737488355328) (h0 : 0 < bytes) (ho : o.op = .call { callee := .builtin .append, args := #[s, x], argTypes := #[t, t] } := by rfl) (hs : ∀ f, R.ev i f s = v0 f := by intro f; kernel_rfl) (hx : ∀ f, R.ev i f x = y := by intro f; kernel_rfl) :
    R.Ob P w0 u0 i o (.rop k fun v => rowE hd v e (l ++ ys)) := by
  cases ys with
  | nil =>
    obtain ⟨A, n, c, rfl, h1, _⟩ := hy
    have : n = 0 := by simpa using h1.symm
    subst this
    rw [List.append_nil]
    exact apE k hT hk ho hs hx
  | cons a r => exact apS k hT hk hy (by simp) hb h0 ho hs hx
end
theorem Els.take {α : Type} {d : World → α → List Value → Prop} : ∀ (l m : List α) (u : World) (xs : List Value), Els d (l ++ m) u xs → ∃ ys zs, xs = ys ++ zs ∧ Els d l u ys
  | [], m, u, xs, h => ⟨[], xs, rfl, rfl⟩
  | a :: l, m, u, xs, ⟨cs, r, e, h1, h2⟩ => by
    obtain ⟨ys, zs, e', h3⟩ := Els.take l m u r h2
    exact ⟨cs ++ ys, zs, by rw [e, e', List.append_assoc], cs, ys, rfl, h1, h3⟩
theorem sl_take {α : Type} {d : World → α → List Value → Prop} {u : World} {A : Option Addr} {n c : Nat} {l m : List α} (h : Sl d u (.slice A n c) (l ++ m)) : Sl d u (.slice A l.length c) l := by
  obtain ⟨A', n', c', e, h1, h2, h3, h4⟩ := h
  cases e
  rw [List.length_append] at h1
  refine ⟨A, l.length, c, rfl, rfl, by omega, by omega, fun hp => ?_⟩
  obtain ⟨ad, ea, xs, h5, h6⟩ := h4 (by omega)
  obtain ⟨ys, zs, e, h7⟩ := Els.take l m u xs h5
  exact ⟨ad, ea, ys, h7, fun j v hv => h6 j v (by rw [e, List.getElem?_append_left (List.getElem?_eq_some_iff.1 hv).1]; exact hv)⟩
theorem gq_at {u : World} {A : Option Addr} {n c b : Nat} {l : List (Int × Int)} (h : Sl (dGq b) u (.slice A n c) l) (i : Nat) (hi : i < n) : ∃ ad s B m d t E k e, A = some ad ∧ GI u s B m d (l.getD i (0, 0)).1 b ∧ GI u t E k e (l.getD i (0, 0)).2 b ∧ ∀ j v, [Value.bool s, .slice B m d, .bool t, .slice E k e][j]? = some v → u.cell? ((ad.add (i * 4)).add j) = some v := by
  obtain ⟨ad, x, cs, hA, hx, ⟨s, B, m, d, t, E, k, e, rfl, hg, hk⟩, hc⟩ := h.at (dGqk b) i hi
  refine ⟨ad, s, B, m, d, t, E, k, e, hA, ?_, ?_, hc⟩
  · rw [List.getD_eq_getElem?_getD, hx]; exact hg
  · rw [List.getD_eq_getElem?_getD, hx]; exact hk
/-- A rational in a box that is written to no more. -/
def KQ (u : World) (v : Value) (x y : Int) (k : Nat) : Prop := ∃ b s A n c t D m e, v = pt b 0 ∧ Kn u b [.bool s, .slice A n c, .bool t, .slice D m e] ∧ GI u s A n c x k ∧ GI u t D m e y k
theorem KQ.sub {u w : World} {v : Value} {x y : Int} {k : Nat} (h : KQ u v x y k) (hs : Sub u w) : KQ w v x y k := let ⟨b, s, A, n, c, t, D, m, e, h0, h1, h2, h3⟩ := h; ⟨b, s, A, n, c, t, D, m, e, h0, h1.sub hs, h2.sub hs, h3.sub hs⟩
theorem Qv.mono {u : World} {v : Value} {x y : Int} {b b' : Nat} (h : Qv u v x y b) (hb : b ≤ b') : Qv u v x y b' := let ⟨s, A, n, c, t, D, m, e, h0, h1, h2⟩ := h; ⟨s, A, n, c, t, D, m, e, h0, h1.mono hb, h2.mono hb⟩
theorem CQv.qv {u : World} {v : Value} {q : Rat} {b : Nat} (h : CQv u v q) (hb : QB q b) : Qv u v q.num q.den b := let ⟨s, A, n, c, t, D, m, e, h0, h1, h2⟩ := h; ⟨s, A, n, c, t, D, m, e, h0, h1.gi hb.1, h2.gi hb.2⟩
end Go.Proofs.Ytaagioghkicdkaa
