/- A logic for regions whose order is open: structs and slices whose parts are open. -/
import Derived.Test.YtaagioghkicdkaaUH
set_option linter.unusedVariables false
set_option linter.unusedSimpArgs false
namespace Go.Proofs.Ytaagioghkicdkaa
open Go.RowKit Go.Proofs.YtaagioghkicdkaaW.PrintWords Mt

section
variable {P : Program} {R : Reg} {w0 u0 : World} {i : Nat} {o : Oper}
/-- A value that is put together of open parts. -/
theorem bqX {Post : World → Value → Prop} (hm : Mono Post) (h : ∀ f u w, R.See w0 u0 i f u w → ∃ r, Post u r ∧ (execOp (R.ev i f) o).run P w = .ok (.value r) w) : R.Ob P w0 u0 i o (.opq Post) :=
  ⟨hm, fun f u w hs => .inl (by obtain ⟨r, hp, hr⟩ := h f u w hs; exact ⟨r, w, u, hr, Adv.refl hs.sub, hp⟩)⟩
/-- A slice of so many elements, just made. -/
theorem bsX {α : Type} {d : World → α → List Value → Prop} {sz : Nat} {l : List α} {m : Nat} {e : TypeId} (hd : DK d sz) (hl : l.length = m) (hm : m ≤ 9223372036854775807) (h : ∀ f u w, R.See w0 u0 i f u w → ∃ cs, Els d l u cs ∧ (execOp (R.ev i f) o).run P w = .ok (.value (.slice (some ⟨w.heap.size, 0, none⟩) m m)) (w.alloc (.cells cs.toArray e (0, 0)))) :
    R.Ob P w0 u0 i o (.opq fun u r => Sl d u r l) :=
  ⟨fun _ _ _ hs h => h.sub hd hs, fun f u w hs => .inl (by
    obtain ⟨cs, hE, hr⟩ := h f u w hs
    obtain ⟨u', hadv, hc⟩ := adv_alloc hs.sub cs.toArray e
    refine ⟨_, _, u', hr, hadv, some ⟨w.heap.size, 0, none⟩, m, m, rfl, hl, Nat.le_refl _, hm, fun _ => ⟨_, rfl, cs, Els.mono hd _ _ _ _ hadv.2.1 hE, fun j v hv => ?_⟩⟩
    rw [add_none, Nat.zero_add]
    exact hc j v (by simpa using hv))⟩
end
/-- Two whole numbers in one form, side by side. -/
def Pv (u : World) (v : Value) (z y : Int) : Prop := ∃ s A n c t D m e, v = .agg #[.bool s, .slice A n c, .bool t, .slice D m e] ∧ CI u s A n c z ∧ CI u t D m e y
theorem Pv.sub {u w : World} {v : Value} {z y : Int} (h : Pv u v z y) (hs : Sub u w) : Pv w v z y := let ⟨s, A, n, c, t, D, m, e, h0, h1, h2⟩ := h; ⟨s, A, n, c, t, D, m, e, h0, h1.sub hs, h2.sub hs⟩
theorem Pv.m (z y : Int) : Mono fun u v => Pv u v z y := fun _ _ _ hs h => h.sub hs
theorem Pv.flat {u : World} {v : Value} {z y : Int} (h : Pv u v z y) : Flat v 4 := by obtain ⟨s, A, n, c, t, D, m, e, rfl, _⟩ := h; exact ⟨rfl, rfl⟩
/-- Elements of slices. -/
def dCi (u : World) (z : Int) (cs : List Value) : Prop := ∃ s A n c, cs = [.bool s, .slice A n c] ∧ CI u s A n c z
def dGi (b : Nat) (u : World) (z : Int) (cs : List Value) : Prop := ∃ s A n c, cs = [.bool s, .slice A n c] ∧ GI u s A n c z b
def dCq (u : World) (q : Rat) (cs : List Value) : Prop := ∃ s A n c t D m e, cs = [.bool s, .slice A n c, .bool t, .slice D m e] ∧ CI u s A n c q.num ∧ CI u t D m e q.den
def dGq (b : Nat) (u : World) (q : Int × Int) (cs : List Value) : Prop := ∃ s A n c t D m e, cs = [.bool s, .slice A n c, .bool t, .slice D m e] ∧ GI u s A n c q.1 b ∧ GI u t D m e q.2 b
def dRw {α : Type} (d : World → α → List Value → Prop) (u : World) (l : List α) (cs : List Value) : Prop := ∃ A n c, cs = [.slice A n c] ∧ Sl d u (.slice A n c) l
theorem dCik : DK dCi 2 := ⟨fun _ _ _ _ hs ⟨s, A, n, c, e, h⟩ => ⟨s, A, n, c, e, h.sub hs⟩, fun _ _ _ ⟨s, A, n, c, e, h⟩ => by rw [e]; simp [Value.oneCell'], fun _ _ _ ⟨s, A, n, c, e, h⟩ => by rw [e]; rfl, by omega⟩
theorem dGik (b : Nat) : DK (dGi b) 2 := ⟨fun _ _ _ _ hs ⟨s, A, n, c, e, h⟩ => ⟨s, A, n, c, e, h.sub hs⟩, fun _ _ _ ⟨s, A, n, c, e, h⟩ => by rw [e]; simp [Value.oneCell'], fun _ _ _ ⟨s, A, n, c, e, h⟩ => by rw [e]; rfl, by omega⟩
theorem dCqk : DK dCq 4 := ⟨fun _ _ _ _ hs ⟨s, A, n, c, t, D, m, d, e, h, k⟩ => ⟨s, A, n, c, t, D, m, d, e, h.sub hs, k.sub hs⟩, fun _ _ _ ⟨s, A, n, c, t, D, m, d, e, h, k⟩ => by rw [e]; simp [Value.oneCell'], fun _ _ _ ⟨s, A, n, c, t, D, m, d, e, h, k⟩ => by rw [e]; rfl, by omega⟩
theorem dGqk (b : Nat) : DK (dGq b) 4 := ⟨fun _ _ _ _ hs ⟨s, A, n, c, t, D, m, d, e, h, k⟩ => ⟨s, A, n, c, t, D, m, d, e, h.sub hs, k.sub hs⟩, fun _ _ _ ⟨s, A, n, c, t, D, m, d, e, h, k⟩ => by rw [e]; simp [Value.oneCell'], fun _ _ _ ⟨s, A, n, c, t, D, m, d, e, h, k⟩ => by rw [e]; rfl, by omega⟩
theorem dRwk {α : Type} {d : World → α → List Value → Prop} {sz : Nat} (hd : DK d sz) : DK (dRw d) 1 := ⟨fun _ _ _ _ hs ⟨A, n, c, e, h⟩ => ⟨A, n, c, e, h.sub hd hs⟩, fun _ _ _ ⟨A, n, c, e, h⟩ => by rw [e]; simp [Value.oneCell'], fun _ _ _ ⟨A, n, c, e, h⟩ => by rw [e]; rfl, by omega⟩
theorem slm {α : Type} {d : World → α → List Value → Prop} {sz : Nat} {l : List α} (hd : DK d sz) : Mono fun u r => Sl d u r l := fun _ _ _ hs h => h.sub hd hs
theorem sl_open {α : Type} {d : World → α → List Value → Prop} {u : World} {v : Value} {l : List α} (h : Sl d u v l) : ∃ A n c, v = .slice A n c ∧ Sl d u (.slice A n c) l ∧ l.length = n := by
  have h' := h
  obtain ⟨A, n, c, rfl, h1, _⟩ := h'
  exact ⟨A, n, c, rfl, h, h1⟩
theorem Sl.flat {α : Type} {d : World → α → List Value → Prop} {u : World} {v : Value} {l : List α} (h : Sl d u v l) : Flat v 1 := by obtain ⟨A, n, c, rfl, _⟩ := h; exact ⟨rfl, rfl⟩
namespace Mt
/-- A rational's numbers have at most so many limbs. -/
def QB (q : Rat) (b : Nat) : Prop := zl q.num ≤ b ∧ zl (q.den : Int) ≤ b
theorem zl_num {q : Rat} {b : Nat} (h : QB q b) : zl q.num ≤ b := h.1
theorem zl_den {q : Rat} {b : Nat} (h : QB q b) : zl (q.den : Int) ≤ b := h.2
theorem zl_div {x : Int} (y : Int) {k : Nat} (h : zl x ≤ k) : zl (x / y) ≤ k := Nat.le_trans (lim_mono (Int.natAbs_ediv_le_natAbs x y)) h
theorem rat_made {x y : Int} (h : 0 < y) : ((x : Rat) / y).num = x / ((Int.gcd x y : Nat) : Int) ∧ (((x : Rat) / y).den : Int) = y / ((Int.gcd x y : Nat) : Int) := by
  rw [← Rat.divInt_eq_div, Rat.num_divInt, Rat.den_divInt]
  rw [Int.gcd_comm y x, Int.sign_eq_one_of_pos h, Int.one_mul, if_neg (by omega)]
  refine ⟨rfl, ?_⟩
  rw [Int.natCast_ediv, Int.natAbs_of_nonneg (by omega)]
theorem rat_neg (x y : Int) : ((-x : Int) : Rat) / ((-y : Int) : Rat) = (x : Rat) / y := by
  rw [← Rat.divInt_eq_div, ← Rat.divInt_eq_div, Rat.neg_divInt_neg]
theorem qb_div {x y : Int} {k l : Nat} (hx : zl x ≤ k) (hy : zl y ≤ l) (h0 : y ≠ 0) : QB ((x : Rat) / y) (max k l) := by
  rcases Int.lt_or_gt_of_ne h0 with h | h
  · have := rat_made (x := -x) (y := -y) (by omega)
    rw [rat_neg] at this
    unfold QB
    rw [this.1, this.2]
    exact ⟨Nat.le_trans (zl_div _ (zl_neg hx)) (Nat.le_max_left _ _), Nat.le_trans (zl_div _ (zl_neg hy)) (Nat.le_max_right _ _)⟩
  · have := rat_made (x := x) h
    unfold QB
    rw [this.1, this.2]
    exact ⟨Nat.le_trans (zl_div _ hx) (Nat.le_max_left _ _), Nat.le_trans (zl_div _ hy) (Nat.le_max_right _ _)⟩
theorem gcd_nz {x y : Int} (h : y ≠ 0) : ((Int.gcd x y : Nat) : Int) ≠ 0 := by
  have : Int.gcd x y ≠ 0 := fun e => h (Int.gcd_eq_zero_iff.1 e).2
  omega
theorem rat_whole (x : Int) : ((x : Rat)).num = x ∧ (((x : Rat)).den : Int) = 1 := ⟨Rat.num_intCast x, by rw [Rat.den_intCast]; rfl⟩
theorem rat_of (q : Rat) : (q.num : Rat) / ((q.den : Int) : Rat) = q := by rw [← Rat.divInt_eq_div]; exact Rat.num_divInt_den q
end Mt
/-- Data of rows, in whatever form. -/
def Gv (u : World) (v : Value) (D : List Int) (L : List (List Int)) (b : Nat) : Prop := ∃ A n c E m e, v = .agg #[.slice A n c, .slice E m e] ∧ Sl (dGi b) u (.slice A n c) D ∧ Sl (dRw (dGi b)) u (.slice E m e) L
theorem Gv.sub {u w : World} {v : Value} {D : List Int} {L : List (List Int)} {b : Nat} (h : Gv u v D L b) (hs : Sub u w) : Gv w v D L b := let ⟨A, n, c, E, m, e, h0, h1, h2⟩ := h; ⟨A, n, c, E, m, e, h0, h1.sub (dGik b) hs, h2.sub (dRwk (dGik b)) hs⟩
theorem Sl.len {α : Type} {d : World → α → List Value → Prop} {u : World} {A : Option Addr} {n c : Nat} {l : List α} (h : Sl d u (.slice A n c) l) : l.length = n ∧ n ≤ 9223372036854775807 := by
  obtain ⟨A', n', c', e, h1, _, h3, _⟩ := h
  cases e
  exact ⟨h1, h3⟩
/-- An element of a slice of numbers, of rows, laid open. -/
theorem gi_at {u : World} {A : Option Addr} {n c b : Nat} {l : List Int} (h : Sl (dGi b) u (.slice A n c) l) (i : Nat) (hi : i < n) : ∃ ad s B m d, A = some ad ∧ GI u s B m d (l.getD i 0) b ∧ ∀ j v, [Value.bool s, .slice B m d][j]? = some v → u.cell? ((ad.add (i * 2)).add j) = some v := by
  obtain ⟨ad, x, cs, hA, hx, ⟨s, B, m, d, rfl, hg⟩, hc⟩ := h.at (dGik b) i hi
  refine ⟨ad, s, B, m, d, hA, ?_, hc⟩
  rw [List.getD_eq_getElem?_getD, hx]; exact hg
theorem ci_at {u : World} {A : Option Addr} {n c : Nat} {l : List Int} (h : Sl dCi u (.slice A n c) l) (i : Nat) (hi : i < n) : ∃ ad s B m d, A = some ad ∧ CI u s B m d (l.getD i 0) ∧ ∀ j v, [Value.bool s, .slice B m d][j]? = some v → u.cell? ((ad.add (i * 2)).add j) = some v := by
  obtain ⟨ad, x, cs, hA, hx, ⟨s, B, m, d, rfl, hg⟩, hc⟩ := h.at dCik i hi
  refine ⟨ad, s, B, m, d, hA, ?_, hc⟩
  rw [List.getD_eq_getElem?_getD, hx]; exact hg
theorem rw_at {α : Type} {d : World → α → List Value → Prop} {sz : Nat} (hd : DK d sz) {u : World} {A : Option Addr} {n c : Nat} {l : List (List α)} (h : Sl (dRw d) u (.slice A n c) l) (i : Nat) (hi : i < n) : ∃ ad B m e, A = some ad ∧ Sl d u (.slice B m e) (l.getD i []) ∧ (l.getD i []).length = m ∧ ∀ j v, [Value.slice B m e][j]? = some v → u.cell? ((ad.add (i * 1)).add j) = some v := by
  obtain ⟨ad, x, cs, hA, hx, ⟨B, m, e, rfl, hg⟩, hc⟩ := h.at (dRwk hd) i hi
  refine ⟨ad, B, m, e, hA, ?_, ?_, hc⟩
  · rw [List.getD_eq_getElem?_getD, hx]; exact hg
  · rw [List.getD_eq_getElem?_getD, hx]; exact hg.len.1
theorem fn_cq {P : Program} {f : Nat} {args : Array Value} {u : World} {q q' : Rat} (h : q = q') (H : Fn P f args u (fun u r => CQv u r q')) : Fn P f args u (fun u r => CQv u r q) := by rw [h]; exact H
end Go.Proofs.Ytaagioghkicdkaa
