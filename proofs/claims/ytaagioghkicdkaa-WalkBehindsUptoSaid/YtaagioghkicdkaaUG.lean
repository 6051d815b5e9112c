/- A logic for regions whose order is open: rows of limbs that are made, read and written; what the document's limb functions reckon. -/
import Derived.Test.YtaagioghkicdkaaUF
set_option linter.unusedVariables false
set_option linter.unusedSimpArgs false
namespace Go.Proofs.Ytaagioghkicdkaa
open Go.RowKit Go.Proofs.YtaagioghkicdkaaW.PrintWords Mt

section
variable {α : Type} {d : World → α → List Value → Prop} {sz : Nat} {hd : DK d sz}
variable {P : Program} {Q : Exit → Act → World → Prop} {n : Nat} {w0 u : World} {g : List (Nat × Value)} {bx : List Box} {rw : List Row}
theorem tri_sub {c : Code} {g' : List (Nat × Value)} (h1 : SubL g' g) (h : Tri P c Q n w0 g' bx rw u) : Tri P c Q n w0 g bx rw u := PN.sub h1 rfl rfl h
/-- How a row's slice looks. -/
theorem tri_row {c : Code} (k : Nat) {v : Value} {e : TypeId} {l : List α} (hk : rw[k]? = some (rowE hd v e l)) (h : ∀ A cap, v = .slice A l.length cap → l.length ≤ cap → (0 < l.length → ∃ b, A = some ⟨b, 0, none⟩) → Tri P c Q n w0 g bx rw u) : Tri P c Q n w0 g bx rw u := fun a w hF hS => by
  obtain ⟨⟨xs, hown, _⟩, _⟩ := hS.row k _ hk
  rcases hown.2 with ⟨ev, hn⟩ | ⟨b, cap, cur, ev, hg, hh, hc1, hc2, hc3, hc4⟩
  · have hn' : l.length = 0 := hn
    exact h none 0 (by rw [hn']; exact ev) (by omega) (fun hp => by omega) a w hF hS
  · exact h (some ⟨b, 0, none⟩) cap ev hc1 (fun _ => ⟨b, rfl⟩) a w hF hS
end
section
variable {P : Program} {R : Reg} {w0 u0 : World} {i : Nat} {o : Oper}
/-- make([]uint32, n). -/
theorem mkL {t e : TypeId} {x : Operand} (m : Nat) (ht : P.underlying t = some (.slice e)) (hi : (P.info? e).map (fun i => (i.zero, i.size, i.bytes)) = some (some (.int .u32 0), 1, 4)) (hm : m ≤ 35184372088832) (ho : o.op = .makeSlice t x x := by rfl) (hx : ∀ f, R.ev i f x = .int .i64 (m : Int) := by intro f; kernel_rfl) : R.Ob P w0 u0 i o (.mk fun v => rowE dLk v e (List.replicate m 0)) := fun f u w hs => by
  have hr := print_make (P := P) t e .u32 4 ht hi (by omega) m (by omega) w
  refine ⟨_, _, by simp only [execOp, ho, hx f, Sem.run_bind, hr, Result.andThen_ok]; rfl, World.grownBy_alloc _ _ _, rfl, ⟨_, ?_, els_dL u _⟩, .inr rfl⟩
  have := own_made w w0.heap.size e .u32 m hs.big (by omega)
  simpa [rowE, nums] using this
/-- A limb of one's own row. -/
theorem lrL (k : Nat) {ty e : TypeId} {b : Nat} {n c : Nat} {l : List Int} {A : Addr} {j : Nat} {x : Operand} (hT : Ty P ty false 1) (hj : j < l.length) (hA : A = (⟨b, 0, none⟩ : Addr).add (j * 1)) (hk : ∀ f, R.visr i f k = some (rowE dLk (.slice (some ⟨b, 0, none⟩) n c) e l) := by intro f; rfl) (ho : o.op = .load ty x := by rfl) (hx : ∀ f, R.ev i f x = .pointer (some A) := by intro f; kernel_rfl) : R.Ob P w0 u0 i o (.con (.int .u32 (at_ l j))) := fun f u w hs => .inl (by
  obtain ⟨xs, hown, hE⟩ := hs.row k _ (hk f)
  have hxs := dL_els l xs hE
  subst hA
  have hc := hown.cells (g := b) rfl j (.int .u32 (at_ l j)) (by rw [hxs, List.getElem?_map, List.getElem?_eq_getElem hj]; simp [at_, List.getD_eq_getElem?_getD, hj])
  have hadd : (⟨b, 0, none⟩ : Addr).add (j * 1) = ⟨b, j, none⟩ := by rw [Nat.mul_one, add_none, Nat.zero_add]
  rw [add_none, Nat.zero_add] at hc
  have := run_loadAt (P := P) (w := w) (ad := ⟨b, j, none⟩) (vs := [.int .u32 (at_ l j)]) hT (fun q y hq => by
    have hq0 : q = 0 := by have := (List.getElem?_eq_some_iff.1 hq).1; simpa using this
    subst hq0
    simp at hq
    subst hq
    rw [add_none]; exact hc) (by simp)
  simp only [asVal, List.headD] at this
  rw [hadd] at hx
  simp [execOp, ho, hx f, Instr.loadAt, Instr.sureAddr, this])
/-- A limb of one's own row is written. -/
theorem rsL (k : Nat) {ty e : TypeId} {b : Nat} {n c : Nat} {l : List Int} {A : Addr} {j : Nat} {x y : Operand} {z : Int} (hT : Ty P ty false 1) (hj : j < l.length) (hA : A = (⟨b, 0, none⟩ : Addr).add (j * 1)) (hn : n = l.length) (hk : ∀ f, R.visr i f k = some (rowE dLk (.slice (some ⟨b, 0, none⟩) n c) e l) := by intro f; rfl) (ho : o.op = .store ty x y := by rfl) (hx : ∀ f, R.ev i f x = .pointer (some A) := by intro f; kernel_rfl) (hy : ∀ f, R.ev i f y = .int .u32 z := by intro f; kernel_rfl) : R.Ob P w0 u0 i o (.rst k (rowE dLk (.slice (some ⟨b, 0, none⟩) n c) e (l.set j z))) := fun f u w hs r0 hr0 => by
  rw [hk f] at hr0
  cases hr0
  obtain ⟨xs, hown, hE⟩ := hs.row k _ (hk f)
  have hxs := dL_els l xs hE
  subst hA
  subst hn
  subst hxs
  have hown' : w.ownsRow w0.heap.size e 1 (.slice (some ⟨b, 0, none⟩) l.length c) l.length (nums .u32 l) := hown
  have hst := (own_store hown' (j : Int) z).1
  have hcell := own_at hown' (j : Int) (by omega) (by omega)
  simp only [Int.toNat_natCast] at hst hcell
  have hadd : (⟨b, 0, none⟩ : Addr).add (j * 1) = ⟨b, j, none⟩ := by rw [Nat.mul_one, add_none, Nat.zero_add]
  have hsz : (sizeOf ty).run P w = .ok 1 w := run_sizeOf hT w
  have hrun : (store ⟨b, j, none⟩ (.int .u32 z)).run P w = .ok () (w.setCell ⟨b, j, none⟩ (.int .u32 z)) := by
    rw [run_store P w _ _ _ rfl, hcell.1]
    simp [hcell.2]
  refine ⟨w.setCell ⟨b, j, none⟩ (.int .u32 z), ?_, (own_store hown' (j : Int) z).2, ⟨nums .u32 (l.set j z), ?_, els_dL u _⟩, rfl⟩
  · rw [hadd] at hx
    have e0 : (⟨b, j, none⟩ : Addr).add 0 = ⟨b, j, none⟩ := by rw [add_none]; rfl
    simp [execOp, ho, hx f, hy f, Instr.storeAt, Instr.sureAddr, storeVar, hsz, Value.cells, storeCells, e0, hrun]
  · show World.ownsRow _ _ _ _ (.slice (some ⟨b, 0, none⟩) l.length c) (l.set j z).length _
    rw [List.length_set]
    exact hst
end

section
variable {P : Program} {R : Reg} {w0 u0 : World} {i : Nat} {o : Oper}
/-- A quotient, a rest by a number that is not 0; shifts. -/
theorem oq {kk : IntKind} {c : Value} {n d : Int} {t t2 : TypeId} {x y : Operand} (hd : d ≠ 0) (e : Value.int kk (kk.wrap (n.tdiv d)) = c) (ho : o.op = .binOp .quo t x y t2 := by rfl) (hx : ∀ f, R.ev i f x = .int kk n := by intro f; kernel_rfl) (hy : ∀ f, R.ev i f y = .int kk d := by intro f; kernel_rfl) : R.Ob P w0 u0 i o (.con c) := fun f u w _ => .inl (by
  subst e
  simp [execOp, ho, hx f, hy f, eqGuard, binOp, Op.intDiv, hd])
theorem om {kk : IntKind} {c : Value} {n d : Int} {t t2 : TypeId} {x y : Operand} (hd : d ≠ 0) (e : Value.int kk (n.tmod d) = c) (ho : o.op = .binOp .rem t x y t2 := by rfl) (hx : ∀ f, R.ev i f x = .int kk n := by intro f; kernel_rfl) (hy : ∀ f, R.ev i f y = .int kk d := by intro f; kernel_rfl) : R.Ob P w0 u0 i o (.con c) := fun f u w _ => .inl (by
  subst e
  simp [execOp, ho, hx f, hy f, eqGuard, binOp, Op.intDiv, hd])
theorem osl {kk yk : IntKind} {c : Value} {n d : Int} {t t2 : TypeId} {x y : Operand} (hd : 0 ≤ d) (e : Value.int kk (kk.wrap (n * 2 ^ min d.toNat kk.bits)) = c) (ho : o.op = .binOp .shl t x y t2 := by rfl) (hx : ∀ f, R.ev i f x = .int kk n := by intro f; kernel_rfl) (hy : ∀ f, R.ev i f y = .int yk d := by intro f; kernel_rfl) : R.Ob P w0 u0 i o (.con c) := fun f u w _ => .inl (by
  subst e
  simp [execOp, ho, hx f, hy f, eqGuard, binOp, Op.shift, show ¬ d < 0 by omega])
theorem osr {kk yk : IntKind} {c : Value} {n d : Int} {t t2 : TypeId} {x y : Operand} (hd : 0 ≤ d) (e : Value.int kk (n.fdiv (2 ^ min d.toNat kk.bits)) = c) (ho : o.op = .binOp .shr t x y t2 := by rfl) (hx : ∀ f, R.ev i f x = .int kk n := by intro f; kernel_rfl) (hy : ∀ f, R.ev i f y = .int yk d := by intro f; kernel_rfl) : R.Ob P w0 u0 i o (.con c) := fun f u w _ => .inl (by
  subst e
  simp [execOp, ho, hx f, hy f, eqGuard, binOp, Op.shift, show ¬ d < 0 by omega])
theorem qu32 {n d m : Int} (h : n / d = m ∧ 0 ≤ n ∧ n ≤ 4294967295 ∧ 1 ≤ d) : Value.int .u32 (IntKind.u32.wrap (n.tdiv d)) = .int .u32 m := by rw [IntWalk.u32_quo _ _ h.2, h.1]
end
theorem LCv.nil {u : World} : LCv u (.slice none 0 0) 0 := ⟨none, 0, 0, rfl, Nat.le_refl _, by rw [dig_zero]; exact ReadsInt.none⟩
theorem nil_lv {u : World} : Lv u (.slice none 0 0) 0 0 := LCv.nil.lv (by rw [lim_zero]; exact Nat.le_refl _)
theorem LCv.none {u : World} {A : Option Addr} {c : Nat} (h : LCv u (.slice A 0 c) 0) : True := trivial
theorem LCv.open {u : World} {v : Value} {N : Nat} (h : LCv u v N) : ∃ A n c, v = .slice A n c ∧ Sl dL u (.slice A n c) (dig N) ∧ (dig N).length = n ∧ n = lim N ∧ n ≤ 9223372036854775807 := by
  obtain ⟨A, n, c, e, h0, h⟩ := h
  exact ⟨A, n, c, e, sl_of_reads h h0, h.1, h.1.symm, h.2.1⟩
theorem Lv.open {u : World} {v : Value} {N b : Nat} (h : Lv u v N b) : ∃ A n c xs, v = .slice A n c ∧ Sl dL u (.slice A n c) xs ∧ xs.length = n ∧ n ≤ b ∧ n ≤ 9223372036854775807 ∧ Lim xs ∧ val xs = N := by
  obtain ⟨A, n, c, e, hb, hc, xs, h1, h2, h3⟩ := h
  exact ⟨A, n, c, xs, e, sl_of_reads h1 hc, h1.1, hb, h1.2.1, h2, h3⟩
namespace Mt
theorem drop_val (a : List Int) (i : Nat) : val (a.drop i) = at_ a i + 4294967296 * val (a.drop (i + 1)) := by
  by_cases h : i < a.length
  · exact val_drop h
  · rw [List.drop_eq_nil_of_le (by omega), List.drop_eq_nil_of_le (by omega), at_ge (by omega)]; simp [val]
theorem take_val (a : List Int) (i : Nat) : val (a.take (i + 1)) = val (a.take i) + B i * at_ a i := by
  by_cases h : i < a.length
  · exact val_take_succ h
  · rw [List.take_of_length_le (by omega), List.take_of_length_le (by omega), at_ge (by omega)]; simp
theorem split_val (a : List Int) (i : Nat) : val a = val (a.take i) + B i * val (a.drop i) := by
  by_cases h : i ≤ a.length
  · exact val_split a h
  · rw [List.take_of_length_le (by omega), List.drop_eq_nil_of_le (by omega)]; simp [val]
theorem take_lt {a : List Int} (h : Lim a) (i : Nat) : 0 ≤ val (a.take i) ∧ val (a.take i) < B i := by
  have h1 := val_nonneg (h.take i)
  have h2 := val_lt (h.take i)
  have h3 : B (a.take i).length ≤ B i := B_mono (by rw [List.length_take]; omega)
  omega
theorem lt_split {a b : List Int} (ha : Lim a) (hb : Lim b) (i : Nat) (h : val (a.drop i) < val (b.drop i)) : val a < val b := by
  have h1 := split_val a i
  have h2 := split_val b i
  have h3 := take_lt ha i
  have h4 := take_lt hb i
  have h5 := Int.mul_le_mul_of_nonneg_left (show val (a.drop i) + 1 ≤ val (b.drop i) by omega) (Int.le_of_lt (B_pos i))
  rw [Int.mul_add, Int.mul_one] at h5
  omega
theorem cmp_lt {a b : List Int} (ha : Lim a) (hb : Lim b) {m : Nat} (h : val (a.drop (m + 1)) = val (b.drop (m + 1))) (hx : at_ a m < at_ b m) : val a < val b := lt_split ha hb m (by rw [drop_val, drop_val b, h]; omega)
theorem cmp_eq {a b : List Int} {m : Nat} (h : val (a.drop (m + 1)) = val (b.drop (m + 1))) (h1 : ¬ at_ a m < at_ b m) (h2 : ¬ at_ b m < at_ a m) : val (a.drop m) = val (b.drop m) := by rw [drop_val, drop_val b, h]; omega
/-- A sum's state. -/
def sumI (xs ys zs : List Int) (k : Nat) (c : Int) : Prop := 0 ≤ c ∧ c ≤ 1 ∧ zs.length = k ∧ Lim zs ∧ val zs + B k * c = val (xs.take k) + val (ys.take k)
theorem sumI_start (xs ys : List Int) : sumI xs ys [] 0 0 := ⟨by omega, by omega, rfl, Lim.nil, by simp [val]⟩
theorem sumI_step {xs ys zs : List Int} {k : Nat} {c : Int} (h : sumI xs ys zs k c) (hx : Lim xs) (hy : Lim ys) : sumI xs ys (zs ++ [(c + at_ xs k + at_ ys k) % 4294967296]) (k + 1) ((c + at_ xs k + at_ ys k) / 4294967296) := by
  obtain ⟨h0, h1, h2, h3, h4⟩ := h
  have hx1 := hx.at_ k
  have hy1 := hy.at_ k
  refine ⟨by omega, by omega, by simp [h2], h3.append (Lim.one (by omega) (by omega)), ?_⟩
  rw [val_snoc, h2, take_val, take_val, B_succ]
  have e : (c + at_ xs k + at_ ys k) % 4294967296 + 4294967296 * ((c + at_ xs k + at_ ys k) / 4294967296) = c + at_ xs k + at_ ys k := by omega
  have e2 := congrArg (fun t => B k * t) e
  simp only [Int.mul_add] at e2
  have e3 : 4294967296 * B k * ((c + at_ xs k + at_ ys k) / 4294967296) = B k * (4294967296 * ((c + at_ xs k + at_ ys k) / 4294967296)) := by rw [Int.mul_comm 4294967296, Int.mul_assoc]
  omega
theorem sumI_end {xs ys zs : List Int} {k : Nat} {c : Int} (h : sumI xs ys zs k c) (hx : xs.length ≤ k) (hy : ys.length ≤ k) : val (zs ++ [c]) = val xs + val ys ∧ Lim (zs ++ [c]) := by
  obtain ⟨h0, h1, h2, h3, h4⟩ := h
  rw [List.take_of_length_le hx, List.take_of_length_le hy] at h4
  exact ⟨by rw [val_snoc, h2]; exact h4, h3.append (Lim.one (by omega) (by omega))⟩
/-- A difference's state. -/
def difI (xs ys zs : List Int) (k : Nat) (c : Int) : Prop := 0 ≤ c ∧ c ≤ 1 ∧ zs.length = k ∧ Lim zs ∧ val zs - B k * c = val (xs.take k) - val (ys.take k)
theorem difI_start (xs ys : List Int) : difI xs ys [] 0 0 := ⟨by omega, by omega, rfl, Lim.nil, by simp [val]⟩
theorem difI_step {xs ys zs : List Int} {k : Nat} {c : Int} (h : difI xs ys zs k c) (hx : Lim xs) (hy : Lim ys) (v b : Int) (hv : v - 4294967296 * b = at_ xs k - (at_ ys k + c)) (hb0 : 0 ≤ b) (hb1 : b ≤ 1) (h0 : 0 ≤ v) (h1 : v ≤ 4294967295) : difI xs ys (zs ++ [v]) (k + 1) b := by
  obtain ⟨h0', h1', h2, h3, h4⟩ := h
  refine ⟨hb0, hb1, by simp [h2], h3.append (Lim.one h0 (by omega)), ?_⟩
  rw [val_snoc, h2, take_val, take_val, B_succ]
  have e2 := congrArg (fun t => B k * t) hv
  simp only [Int.mul_sub, Int.mul_add] at e2
  have e3 : 4294967296 * B k * b = B k * (4294967296 * b) := by rw [Int.mul_comm 4294967296, Int.mul_assoc]
  omega
theorem difI_end {xs ys zs : List Int} {k : Nat} {c : Int} (h : difI xs ys zs k c) (hx : xs.length ≤ k) (hxl : Lim xs) (hyl : Lim ys) (hle : val ys ≤ val xs) : val zs = val xs - val ys := by
  obtain ⟨h0, h1, h2, h3, h4⟩ := h
  rw [List.take_of_length_le hx] at h4
  have s1 := split_val ys k
  have s2 := take_lt hyl k
  have s3 := val_lt h3
  rw [h2] at s3
  have s4 := val_nonneg (hyl.drop k)
  have s5 := val_nonneg h3
  have s8 := val_lt hxl
  have s9 : B xs.length ≤ B k := B_mono hx
  have s6 : val (ys.drop k) = 0 := by
    rcases Int.lt_trichotomy (val (ys.drop k)) 0 with q | q | q
    · omega
    · exact q
    · have := Int.mul_le_mul_of_nonneg_left (show 1 ≤ val (ys.drop k) by omega) (Int.le_of_lt (B_pos k)); omega
  rw [s6] at s1
  rcases (show c = 0 ∨ c = 1 by omega) with q | q <;> subst q <;> omega
/-- A product's state: rows done, limbs of the row done. -/
def mulI (xs ys zs : List Int) (i j : Nat) (c : Int) : Prop := 0 ≤ c ∧ c < 4294967296 ∧ zs.length = xs.length + ys.length ∧ Lim zs ∧ (∀ q, i + ys.length ≤ q → at_ zs q = 0) ∧ val zs + B (i + j) * c = val (xs.take i) * val ys + B i * (at_ xs i * val (ys.take j))
def mulO (xs ys zs : List Int) (i : Nat) : Prop := zs.length = xs.length + ys.length ∧ Lim zs ∧ (∀ q, i + ys.length ≤ q → at_ zs q = 0) ∧ val zs = val (xs.take i) * val ys
theorem mulO_start (xs ys : List Int) : mulO xs ys (List.replicate (xs.length + ys.length) 0) 0 := ⟨by simp, Lim.noughts _, fun q _ => at_noughts _ _, by rw [val_noughts]; simp [val]⟩
theorem mulI_start {xs ys zs : List Int} {i : Nat} (h : mulO xs ys zs i) : mulI xs ys zs i 0 0 := ⟨by omega, by omega, h.1, h.2.1, h.2.2.1, by rw [h.2.2.2]; simp [val]⟩
theorem mul_bd {x y : Int} (hx0 : 0 ≤ x) (hx1 : x < 4294967296) (hy0 : 0 ≤ y) (hy1 : y < 4294967296) : 0 ≤ x * y ∧ x * y ≤ 18446744065119617025 :=
  ⟨Int.mul_nonneg hx0 hy0, by have := Int.mul_le_mul (show x ≤ 4294967295 by omega) (show y ≤ 4294967295 by omega) hy0 (by omega); omega⟩
theorem mulI_step {xs ys zs : List Int} {i j : Nat} {c s : Int} (h : mulI xs ys zs i j c) (hi : i < xs.length) (hj : j < ys.length) (hx : Lim xs) (hy : Lim ys) (hs : s = c + at_ zs (i + j) + at_ xs i * at_ ys j) : mulI xs ys (zs.set (i + j) (s % 4294967296)) i (j + 1) (s / 4294967296) := by
  obtain ⟨h0, h1, ho, hl, hz, hv⟩ := h
  have l1 := hx.at_ i
  have l2 := hy.at_ j
  have l3 := hl.at_ (i + j)
  have m := mul_bd l1.1 l1.2 l2.1 l2.2
  have hlt : i + j < zs.length := by omega
  have m0 : 0 ≤ s % 4294967296 ∧ s % 4294967296 < 4294967296 ∧ 0 ≤ s / 4294967296 ∧ s / 4294967296 < 4294967296 := by omega
  refine ⟨m0.2.2.1, m0.2.2.2, by rw [List.length_set]; exact ho, hl.set _ m0.1 m0.2.1, fun q hq => ?_, ?_⟩
  · rw [at_set_ne _ (by omega)]; exact hz q hq
  · rw [val_set _ hlt, take_val, show i + (j + 1) = i + j + 1 by omega, B_succ]
    have e : s % 4294967296 - at_ zs (i + j) + 4294967296 * (s / 4294967296) = c + at_ xs i * at_ ys j := by omega
    have e1 := congrArg (fun t => B (i + j) * t) e
    simp only [Int.mul_add] at e1
    have e3 : 4294967296 * B (i + j) * (s / 4294967296) = B (i + j) * (4294967296 * (s / 4294967296)) := by rw [Int.mul_comm 4294967296, Int.mul_assoc]
    have e2 : B i * (at_ xs i * (val (ys.take j) + B j * at_ ys j)) = B i * (at_ xs i * val (ys.take j)) + B (i + j) * (at_ xs i * at_ ys j) := by
      rw [B_add, Int.mul_add, Int.mul_add, Int.mul_left_comm (at_ xs i) (B j), Int.mul_assoc]
    rw [e2]
    omega
theorem mulI_end {xs ys zs : List Int} {i : Nat} {c : Int} (h : mulI xs ys zs i ys.length c) (hi : i < xs.length) : mulO xs ys (zs.set (i + ys.length) c) (i + 1) := by
  obtain ⟨h0, h1, ho, hl, hz, hv⟩ := h
  have hlt : i + ys.length < zs.length := by omega
  refine ⟨by rw [List.length_set]; exact ho, hl.set _ h0 h1, fun q hq => ?_, ?_⟩
  · rw [at_set_ne _ (by omega)]; exact hz q (by omega)
  · rw [val_set _ hlt, hz _ (Nat.le_refl _), Int.sub_zero, take_val, Int.add_mul, Int.mul_assoc, hv, List.take_length]
theorem mulO_end {xs ys zs : List Int} {i : Nat} (h : mulO xs ys zs i) (hi : xs.length ≤ i) : val zs = val xs * val ys := by rw [h.2.2.2, List.take_of_length_le hi]
theorem at_pad (l : List Int) (n j : Nat) : at_ (l ++ List.replicate n 0) j = at_ l j := by
  by_cases h : j < l.length
  · unfold at_; rw [List.getD_eq_getElem?_getD, List.getD_eq_getElem?_getD, List.getElem?_append_left h]
  · rw [at_ge (xs := l) (by omega)]
    unfold at_; rw [List.getD_eq_getElem?_getD, List.getElem?_append_right (by omega)]
    have := at_noughts n (j - l.length)
    unfold at_ at this; rw [List.getD_eq_getElem?_getD] at this
    exact this
theorem val_pad (l : List Int) (n : Nat) : val (l ++ List.replicate n 0) = val l := by rw [val_append, val_noughts, Int.mul_zero, Int.add_zero]
/-- The guess: not below the digit, and a limb. -/
theorem guess_up (rest v : List Int) (hr : Lim rest) (hv : Lim v) (m : Nat) (hvl : v.length = m + 1) (hrl : rest.length ≤ m + 2) (hlt : val rest < 4294967296 * val v) (hv1 : 0 < at_ v m) (hV : 0 < val v) :
    ∃ c Q : Nat, val rest / val v = Q ∧ Q + c < 4294967296 ∧ mnI ((at_ rest (m + 1) * 4294967296 + at_ rest m) / at_ v m) 4294967295 = ((Q + c : Nat) : Int) := by
  have h := guess_ok (us := rest ++ List.replicate (m + 2 - rest.length) 0) (vs := v) (m := m) (hr.append (Lim.noughts _)) hv (by rw [List.length_append, List.length_replicate]; omega) hvl (by rw [val_pad]; exact hlt) hv1 _ rfl
  rw [at_pad, at_pad, val_pad] at h
  obtain ⟨g0, g1, g2⟩ := h
  generalize mnI ((at_ rest (m + 1) * 4294967296 + at_ rest m) / at_ v m) 4294967295 = g at *
  have q0 : 0 ≤ val rest / val v := Int.ediv_nonneg (val_nonneg hr) (by omega)
  have q1 : val rest / val v < g + 1 := Int.ediv_lt_of_lt_mul hV g2
  exact ⟨(g - val rest / val v).toNat, (val rest / val v).toNat, by omega, by omega, by omega⟩
theorem pw_lt {r : Nat} (h : r < 32) : 0 < (2 : Int) ^ r ∧ (2 : Int) ^ r < 4294967296 := by
  have h1 : 0 < (2 : Int) ^ r := Int.pow_pos (by decide)
  have h2 : (2 : Nat) ^ r < 2 ^ 32 := Nat.pow_lt_pow_right (by omega) h
  have h3 : ((2 ^ r : Nat) : Int) = (2 : Int) ^ r := by simp
  omega
theorem two_lim (n : Nat) : Lim (List.replicate (n / 32) 0 ++ [(2 : Int) ^ (n % 32)]) := (Lim.noughts _).append (Lim.one (by have := pw_lt (show n % 32 < 32 by omega); omega) (by have := pw_lt (show n % 32 < 32 by omega); omega))
theorem two_val (n : Nat) : val (List.replicate (n / 32) 0 ++ [(2 : Int) ^ (n % 32)]) = ((2 ^ n : Nat) : Int) := by
  rw [val_snoc, val_noughts, List.length_replicate, Int.zero_add, B_two]
  have : (2 : Nat) ^ n = 2 ^ (32 * (n / 32)) * 2 ^ (n % 32) := by rw [← Nat.pow_add]; congr 1; omega
  rw [this]; simp
theorem two_len (n : Nat) : (List.replicate (n / 32) 0 ++ [(2 : Int) ^ (n % 32)]).length = n / 32 + 1 := by simp

theorem shr_m1 (l out : List Int) (h : Lim l) (q r k0 : Nat) (x : Int) (hr : r < 32) (hi : k0 + q < l.length) (ho : out.length = k0) (hl : Lim out) (hx : x = at_ l (k0 + q) + at_ l (k0 + q + 1) * 4294967296) (hv : val out = val (l.drop q) / 2 ^ r % B k0) :
    Lim (out ++ [x / 2 ^ r % 4294967296]) ∧ val (out ++ [x / 2 ^ r % 4294967296]) = val (l.drop q) / 2 ^ r % B (k0 + 1) := by
  have hs0 : shrI l (out ++ [0]) (k0 + 1) q r k0 := ⟨by rw [List.length_append, List.length_singleton, ho], hl.append (Lim.one (Int.le_refl _) (by decide)), by rw [List.take_append_of_le_length (Nat.le_of_eq ho.symm), List.take_of_length_le (Nat.le_of_eq ho)]; exact hv⟩
  have hs1 := shrI_step hs0 hr hi (Nat.lt_succ_self _) h
  rw [← hx] at hs1
  have hset : (out ++ [0]).set k0 (x / 2 ^ r % 4294967296) = out ++ [x / 2 ^ r % 4294967296] := by rw [← ho, List.set_append_right _ _ (Nat.le_refl _), Nat.sub_self]; rfl
  rw [hset] at hs1
  refine ⟨hs1.lim, ?_⟩
  have hv1 := hs1.2.2
  rw [List.take_of_length_le (by rw [List.length_append, List.length_singleton, ho]; exact Nat.le_refl _)] at hv1
  exact hv1
theorem nbits_half {w : Nat} (h : 0 < w) : nbits w = nbits (w / 2) + 1 := by
  by_cases h0 : w / 2 = 0
  · rw [show w = 1 by omega]; rfl
  · have h1 := pow_le_nbits h0
    have h2 := lt_nbits (w / 2)
    have h3 : 1 ≤ nbits (w / 2) := by unfold nbits; rw [if_neg h0]; omega
    obtain ⟨m, hm⟩ : ∃ m, nbits (w / 2) = m + 1 := ⟨nbits (w / 2) - 1, by omega⟩
    rw [hm] at h1 h2 ⊢
    rw [Nat.add_sub_cancel] at h1
    exact nbits_eq (by rw [Nat.pow_succ]; omega) (by rw [Nat.pow_succ]; omega)
theorem bits_of {l : List Int} (h : Lim l) {m : Nat} (hm : m < l.length) (ht : tl l (m + 1) = tl l l.length) (h0 : at_ l m ≠ 0) {N : Nat} (hN : val l = N) : nbits N = 32 * m + nbits (at_ l m).toNat := by
  have e : l.take (tl l l.length) = dig N := dig_of (h.take _) (tl_can (Nat.le_refl _)) (by rw [tl_val (Nat.le_refl _), List.take_length]; exact hN)
  rw [← ht, show tl l (m + 1) = m + 1 by simp [tl, h0]] at e
  have hl : lim N = m + 1 := by unfold lim; rw [← e, List.length_take]; omega
  have ha : at_ (dig N) m = at_ l m := by
    rw [← e]
    unfold at_
    rw [List.getD_eq_getElem?_getD, List.getD_eq_getElem?_getD, List.getElem?_take_of_lt (by omega)]
  have hb := (nbits_top hl).1
  rwa [ha] at hb
theorem bits_zero {l : List Int} (h : Lim l) (ht : 0 = tl l l.length) {N : Nat} (hN : val l = N) : N = 0 := by
  have e : l.take (tl l l.length) = dig N := dig_of (h.take _) (tl_can (Nat.le_refl _)) (by rw [tl_val (Nat.le_refl _), List.take_length]; exact hN)
  rw [← ht] at e
  have h2 := dig_val N
  rw [← e] at h2
  simp [val] at h2
  omega
theorem two_dig (n : Nat) : List.replicate (n / 32) 0 ++ [(2 : Int) ^ (n % 32)] = dig (2 ^ n) := dig_of (two_lim n) (by unfold Can; simp; have := pw_lt (show n % 32 < 32 by omega); omega) (two_val n)
/-- What is shifted out. -/
theorem shr_end {l out : List Int} (h : Lim l) {n k : Nat} (hl : Lim out) (ho : out.length = k) (hk : l.length = k + n / 32) (hv : val out = val (l.drop (n / 32)) / 2 ^ (n % 32) % B k) : val out = val l / 2 ^ n := by
  have hsh : shrI l out k (n / 32) (n % 32) k := ⟨ho, hl, by rw [List.take_of_length_le (by omega)]; exact hv⟩
  have he := shrI_end hsh hk h
  rwa [show 32 * (n / 32) + n % 32 = n by omega] at he
theorem shl1 {r : Nat} (h : r < 32) : Value.int .u32 (IntKind.u32.wrap (1 * 2 ^ min ((r : Nat) : Int).toNat (IntKind.u32.bits))) = .int .u32 (2 ^ r) := by
  have := pw_lt h
  rw [Int.toNat_natCast, show min r (IntKind.u32.bits) = r from Nat.min_eq_left (Nat.le_of_lt h), Int.one_mul, IntKind.wrap_u32]
  congr 1; omega
theorem shr1 {x : Int} {r : Nat} (h : r < 32) : Value.int .u64 (x.fdiv (2 ^ min ((r : Nat) : Int).toNat (IntKind.u64.bits))) = .int .u64 (x / 2 ^ r) := by
  rw [Int.toNat_natCast, show min r (IntKind.u64.bits) = r from Nat.min_eq_left (Nat.le_trans (Nat.le_of_lt h) (by decide)), Int.fdiv_eq_ediv_of_nonneg _ (Int.le_of_lt (pow2_pos r))]
theorem two_limb (n : Nat) : lim (2 ^ n) ≤ n / 32 + 1 := by unfold lim; rw [← two_dig]; simp
theorem nbits_len {l : List Int} (h : Lim l) {N : Nat} (hN : val l = N) : nbits N ≤ 32 * l.length := nbits_le (by have := val_lt h; rw [hN, B_two] at this; exact Int.ofNat_lt.1 this)
theorem div_zero_of {M n : Nat} (h : nbits M ≤ n) : M / 2 ^ n = 0 := Nat.div_eq_of_lt (Nat.lt_of_lt_of_le (lt_nbits M) (Nat.pow_le_pow_right (by omega) h))
theorem lim_ps {N : Nat} (h : 0 < N) : 0 < lim N := by
  rcases Nat.eq_zero_or_pos (lim N) with h0 | h0
  · have := lt_B_lim N; rw [h0, B_zero] at this; omega
  · exact h0
theorem at_one {N : Nat} (h : lim N = 1) : at_ (dig N) 0 = N := by
  have := dig_val N
  obtain ⟨x, hx⟩ := List.length_eq_one_iff.1 (show (dig N).length = 1 from h)
  rw [hx] at this ⊢
  simp [val] at this
  simpa [at_] using this
/-- A division's state: limbs from k on are done, R is left. -/
def dvI (us qs : List Int) (V k R : Nat) : Prop := qs.length = us.length ∧ Lim qs ∧ (∀ j, j < k → at_ qs j = 0) ∧ val (us.drop k) = V * val (qs.drop k) + R ∧ R < V
theorem dvI_start (us : List Int) {V : Nat} (h : 0 < V) : dvI us (List.replicate us.length 0) V us.length 0 := ⟨by simp, Lim.noughts _, fun j _ => at_noughts _ _, by simp [val], h⟩
/-- The next limb's rest. -/
def nextR (us : List Int) (m R : Nat) : Nat := (at_ us m).toNat + 4294967296 * R
theorem nextR_val {us : List Int} (h : Lim us) (m R : Nat) : ((nextR us m R : Nat) : Int) = at_ us m + 4294967296 * R := by have := h.at_ m; unfold nextR; omega
theorem nextR_lt {us qs : List Int} {V m R : Nat} (h : dvI us qs V (m + 1) R) (hl : Lim us) : nextR us m R < 4294967296 * V := by have := hl.at_ m; have := h.2.2.2.2; unfold nextR; omega
theorem dvI_skip {us qs : List Int} {V m R : Nat} (h : dvI us qs V (m + 1) R) (hm : m < us.length) (hl : Lim us) (hlt : nextR us m R < V) : dvI us qs V m (nextR us m R) := by
  obtain ⟨h1, h2, h3, h4, h5⟩ := h
  refine ⟨h1, h2, fun j hj => h3 j (by omega), ?_, hlt⟩
  rw [drop_val us, drop_val qs, h3 m (by omega), h4, nextR_val hl, Int.zero_add, Int.mul_add, Int.mul_left_comm (V : Int)]
  omega
theorem dvI_put {us qs : List Int} {V m R : Nat} (h : dvI us qs V (m + 1) R) (hm : m < us.length) (hl : Lim us) (hV : 0 < V) : dvI us (qs.set m ((nextR us m R / V : Nat) : Int)) V m (nextR us m R % V) := by
  have hlt := nextR_lt h hl
  obtain ⟨h1, h2, h3, h4, h5⟩ := h
  have hd : nextR us m R / V < 4294967296 := Nat.div_lt_of_lt_mul (by rw [Nat.mul_comm]; exact hlt)
  refine ⟨by rw [List.length_set]; exact h1, h2.set _ (Int.natCast_nonneg _) (Int.ofNat_lt.2 hd), fun j hj => by rw [at_set_ne _ (by omega)]; exact h3 j (by omega), ?_, Nat.mod_lt _ hV⟩
  rw [drop_val us, drop_set _ (by omega), val_cons, h4]
  have e := Nat.div_add_mod (nextR us m R) V
  have e2 : ((V * (nextR us m R / V) + nextR us m R % V : Nat) : Int) = at_ us m + 4294967296 * R := by rw [e]; exact nextR_val hl m R
  rw [Int.natCast_add, Int.natCast_mul] at e2
  rw [Int.mul_add, Int.mul_add, Int.mul_left_comm (V : Int)]
  omega
theorem dvI_end {us qs : List Int} {V R U : Nat} (h : dvI us qs V 0 R) (hU : val us = U) : val qs = ((U / V : Nat) : Int) ∧ R = U % V := by
  obtain ⟨h1, h2, h3, h4, h5⟩ := h
  rw [List.drop_zero, List.drop_zero, hU] at h4
  have p := val_nonneg h2
  obtain ⟨q, hq⟩ : ∃ q : Nat, val qs = q := ⟨(val qs).toNat, by omega⟩
  rw [hq] at h4 ⊢
  have h6 : U = V * q + R := by exact_mod_cast h4
  have hV : 0 < V := by omega
  have h7 : U / V = q := by rw [h6, Nat.mul_add_div hV, Nat.div_eq_of_lt h5, Nat.add_zero]
  have h8 : U % V = R := by rw [h6, Nat.mul_add_mod, Nat.mod_eq_of_lt h5]
  exact ⟨by rw [h7], h8.symm⟩
/-- The divisor's top limb, doubled till its top bit is set. -/
theorem top_set {N s : Nat} (hN : 0 < N) (hs : s = 32 * lim N - nbits N) : lim (N * 2 ^ s) = lim N ∧ 2147483648 ≤ at_ (dig (N * 2 ^ s)) (lim N - 1) := by
  have hl := lim_ps hN
  obtain ⟨k, hk⟩ : ∃ k, lim N = k + 1 := ⟨lim N - 1, by omega⟩
  have hb := (nbits_top hk).1
  have h1 : nbits (at_ (dig N) k).toNat ≤ 32 := nbits_le (by have := (dig_lim N).at_ k; omega)
  have h2 := (nbits_top hk).2
  have h3 := (dig_lim N).at_ k
  have h4 : 1 ≤ nbits (at_ (dig N) k).toNat := by unfold nbits; rw [if_neg (by omega)]; omega
  have hn0 : N ≠ 0 := by omega
  have h5 := pow_le_nbits hn0
  have h6 := lt_nbits N
  have e : s + nbits N = 32 * (k + 1) := by omega
  have p1 : 2 ^ (32 * (k + 1) - 1) ≤ N * 2 ^ s := by
    have := Nat.mul_le_mul_right (2 ^ s) h5
    rwa [← Nat.pow_add, show nbits N - 1 + s = 32 * (k + 1) - 1 by omega] at this
  have p2 : N * 2 ^ s < 2 ^ (32 * (k + 1)) := by
    have := Nat.mul_lt_mul_of_pos_right h6 (show 0 < 2 ^ s from Nat.pow_pos (by omega))
    rwa [← Nat.pow_add, show nbits N + s = 32 * (k + 1) by omega] at this
  have q1 : lim (N * 2 ^ s) ≤ k + 1 := lim_le (by rw [B_two]; exact Int.ofNat_lt.2 p2)
  have q2 : k + 1 ≤ lim (N * 2 ^ s) := by
    apply Nat.le_of_not_lt
    intro hlt
    have h7 := lt_B_lim (N * 2 ^ s)
    have h8 := B_mono (show lim (N * 2 ^ s) ≤ k by omega)
    rw [B_two k] at h8
    have h9 : N * 2 ^ s < 2 ^ (32 * k) := Int.ofNat_lt.1 (Int.lt_of_lt_of_le h7 h8)
    have h10 : 2 ^ (32 * k) ≤ 2 ^ (32 * (k + 1) - 1) := Nat.pow_le_pow_right (by omega) (by omega)
    omega
  have q : lim (N * 2 ^ s) = k + 1 := by omega
  refine ⟨by rw [q, hk], ?_⟩
  rw [hk, Nat.add_sub_cancel]
  have ht := (nbits_top q).1
  have hn : nbits (N * 2 ^ s) = 32 * (k + 1) := by
    have := nbits_eq (n := N * 2 ^ s) (k := 32 * (k + 1) - 1) p1 (by rw [show 32 * (k + 1) - 1 + 1 = 32 * (k + 1) by omega]; exact p2)
    omega
  have h11 := (dig_lim (N * 2 ^ s)).at_ k
  have h12 : nbits (at_ (dig (N * 2 ^ s)) k).toNat = 32 := by omega
  have h13 : (at_ (dig (N * 2 ^ s)) k).toNat ≠ 0 := fun h => by rw [h] at h12; simp [nbits] at h12
  have h14 := pow_le_nbits h13
  rw [h12] at h14
  have : (2 : Nat) ^ (32 - 1) = 2147483648 := by decide
  omega
theorem lim_next {R V n : Nat} (h : R < 4294967296 * V) (hV : lim V ≤ n) : lim R ≤ n + 1 := lim_le (by
  have h1 := lt_B_lim V
  have h2 := B_mono hV
  rw [B_succ]
  omega)
/-- The guess, in natural numbers. -/
theorem guess_nat {R V m : Nat} (hl : lim V = m + 1) (ht : 2147483648 ≤ at_ (dig V) m) (h : R < 4294967296 * V) : ∃ c, R / V + c < 4294967296 ∧ mnI ((at_ (dig R) (m + 1) * 4294967296 + at_ (dig R) m) / at_ (dig V) m) 4294967295 = ((R / V + c : Nat) : Int) := by
  have hV : 0 < V := by
    rcases Nat.eq_zero_or_pos V with h0 | h0
    · subst h0; rw [lim_zero] at hl; omega
    · exact h0
  obtain ⟨c, Q, h1, h2, h3⟩ := guess_up (dig R) (dig V) (dig_lim _) (dig_lim _) m hl (lim_next h (Nat.le_of_eq hl)) (by rw [dig_val, dig_val]; omega) (by omega) (by rw [dig_val]; omega)
  rw [dig_val, dig_val] at h1
  have h4 : R / V = Q := by exact_mod_cast h1
  exact ⟨c, by omega, by rw [h3, h4]⟩
theorem div_shift (M N s : Nat) (hN : 0 < N) : M * 2 ^ s / (N * 2 ^ s) = M / N ∧ M * 2 ^ s % (N * 2 ^ s) / 2 ^ s = M % N := by
  have h2 : 0 < 2 ^ s := Nat.pow_pos (by omega)
  refine ⟨Nat.mul_div_mul_right _ _ h2, ?_⟩
  rw [Nat.mul_mod_mul_right, Nat.mul_div_cancel _ h2]
theorem lim_small {N : Nat} (h : N < 4294967296) : lim N ≤ 1 := lim_le (by rw [B_succ, B_zero]; omega)
theorem sgnc_neg {a b : Nat} (h : sgnc a b < 0) : a < b := by
  rcases Nat.lt_trichotomy a b with h1 | h1 | h1
  · exact h1
  · rw [sgnc_eq (by omega)] at h; omega
  · rw [sgnc_gt (by omega)] at h; omega
theorem sgnc_not {a b : Nat} (h : a ≤ b) : ¬ 0 < sgnc a b := by
  rcases Nat.lt_or_eq_of_le h with h1 | h1
  · rw [sgnc_lt (by omega)]; omega
  · rw [sgnc_eq (by omega)]; omega
theorem sgnc_yes {a b : Nat} (h : b < a) : 0 < sgnc a b := by rw [sgnc_gt (by omega)]; omega
theorem nextR_lim {us : List Int} (h : Lim us) (m R : Nat) : Lim (at_ us m :: dig R) := Lim.cons (h.at_ m).1 (h.at_ m).2 (dig_lim R)
theorem nextR_is {us : List Int} (h : Lim us) (m R : Nat) : val (at_ us m :: dig R) = ((nextR us m R : Nat) : Int) := by rw [val_cons, dig_val, nextR_val h]
theorem dvI_put' {us qs : List Int} {V m R Q p : Nat} (h : dvI us qs V (m + 1) R) (hm : m < us.length) (hl : Lim us) (hV : 0 < V) (hQ : Q = nextR us m R / V) (hp : p = V * Q) : dvI us (qs.set m (Q : Int)) V m (nextR us m R - p) := by
  have h1 := dvI_put h hm hl hV
  rw [← hQ] at h1
  have h2 := Nat.div_add_mod (nextR us m R) V
  rw [← hQ, ← hp] at h2
  rwa [show nextR us m R - p = nextR us m R % V by omega]
theorem mul_pred {V Q e p : Nat} (h : p = V * (Q + (e + 1))) : V ≤ p ∧ p - V = V * (Q + e) := by
  have : V * (Q + (e + 1)) = V * (Q + e) + V := by rw [← Nat.add_assoc, Nat.mul_succ]
  omega
theorem mn_small {x c : Int} {k : Int} (h : mnI x k = c) (hx : x ≤ k) : x = c := by unfold mnI at h; split at h <;> omega
theorem mn_big {x c : Int} {k : Int} (h : mnI x k = c) (hx : k < x) : k = c := by unfold mnI at h; split at h <;> omega
theorem lt_mul_next {V Q e n : Nat} (hV : 0 < V) (hQ : Q = n / V) : n < V * (Q + (e + 1)) := by
  have h1 : n < V * (Q + 1) := by rw [hQ]; exact Nat.lt_mul_div_succ n hV
  exact Nat.lt_of_lt_of_le h1 (Nat.mul_le_mul_left V (by omega))
theorem lim_gcd {M N a b : Nat} (ha : lim M ≤ a) (hb : lim N ≤ b) : lim (Nat.gcd M N) ≤ max a b := by
  rcases Nat.eq_zero_or_pos M with h | h
  · rw [h, Nat.gcd_zero_left]; omega
  · exact Nat.le_trans (lim_mono (Nat.gcd_le_left N h)) (by omega)
end Mt
section
variable {P : Program} {R : Reg} {w0 u0 : World} {i : Nat} {o : Oper}
theorem bsLT {t e : TypeId} {bytes : Nat} {x : Int} {y : Operand} (hT : SlT P t e 1 bytes) (ho : o.op = .buildSlice t 1 #[(0, y)] := by rfl) (hy : ∀ f, R.ev i f y = .int .u32 x := by intro f; kernel_rfl) : R.Ob P w0 u0 i o (.opq (Sl1 dL x)) := bs1T dLk hT (fun f u w _ => by rw [hy f]; rfl) rfl ho
theorem apQL (j : Nat) {t e : TypeId} {x : Int} {ys : List Int} {s z : Operand} {zv : Value} (hT : SlT P t e 1 4) (hy : ∀ f u w, R.See w0 u0 i f u w → Sl dL u zv ys) (hb : (1 + ys.length) * 4 ≤ 140737488355328) (hj : R.ks[j]? = some (.opq (Sl1 dL x)) := by rfl) (hz : ∀ f, R.ev i f z = zv := by intro f; kernel_rfl)
    (hdep : R.dep j i = true := by kernel_rfl) (ho : o.op = .call { callee := .builtin .append, args := #[s, z], argTypes := #[t, t] } := by rfl) (hs : ∀ f, R.ev i f s = f j := by intro f; kernel_rfl) : R.Ob P w0 u0 i o (.opq fun u r => Sl dL u r (x :: ys)) :=
  apQ j dLk hT hj (fun f u w h => by rw [hz f]; exact hy f u w h) hb (by omega) hdep ho hs
theorem fn_lc {f : Nat} {args : Array Value} {u : World} {N N' : Nat} (h : N = N') (H : Fn P f args u (fun u r => LCv u r N')) : Fn P f args u (fun u r => LCv u r N) := by rw [h]; exact H
end
end Go.Proofs.Ytaagioghkicdkaa
