/- What intervals hold: sums, differences, products, squares, and what is sure. -/
import Derived.Test.YtlmiadjogdfjkaaFx
set_option linter.unusedVariables false
set_option maxRecDepth 100000
set_option exponentiation.threshold 4000
namespace Go.Proofs.Ytlmiadjogdfjkaa.V
open Go.RowKit Mt Nml
/-- An interval in order that holds a number. -/
def Bx (o p : Option Nat) (v : Rat) : Prop := oLe o p = true ∧ fitsL o v = true ∧ fitsH p v = true
theorem lh_le {j k : Int} {v : Rat} (h : FL j v) (h' : FH k v) (r1 : j ≤ 9218868437227405312) (r2 : -9218868437227405312 ≤ k) : j ≤ k := by
  rcases h with h | ⟨_, h⟩
  · omega
  · rcases h' with h' | ⟨_, h'⟩
    · omega
    · rcases Int.lt_or_le k j with h3 | h3
      · have := kv_lt h3; grind
      · exact h3
theorem bx_of {x y : Nat} (n : NumF x) (n' : NumF y) {v : Rat} (h : fitsL (some x) v = true) (h' : fitsH (some y) v = true) : Bx (some x) (some y) v := by
  refine ⟨?_, h, h'⟩
  have := lh_le ((fitsL_FL n v).1 h) ((fitsH_FH n' v).1 h') (key_rg n).2 (key_rg n').1
  exact decide_eq_true this
theorem bx_add {a b c d : Nat} (ha : NumF a) (hb : NumF b) (hc : NumF c) (hd : NumF d) {x y : Rat} (h1 : FL (Fl.key a) x) (h2 : FH (Fl.key b) x) (h3 : FL (Fl.key c) y) (h4 : FH (Fl.key d) y) : Bx (oLow (oAdd (some a) (some c))) (oHigh (oAdd (some b) (some d))) (x + y) := by
  have ra := key_rg ha
  have rb := key_rg hb
  have rc := key_rg hc
  have rd := key_rg hd
  obtain ⟨r, e, n, k⟩ := add_SK ha hc (fun hh => by rcases h1 with h | h <;> omega) (fun hh => by rcases h3 with h | h <;> omega)
  obtain ⟨r', e', n', k'⟩ := add_SK hb hd (fun hh => by rcases h4 with h | h <;> omega) (fun hh => by rcases h2 with h | h <;> omega)
  have k1 := low_FL n (k.low h1 h3 ra.1 rc.1)
  have k2 := high_FH n' (k'.high h2 h4 rb.2 rd.2)
  rw [e, e', low_some, high_some]
  rw [low_some] at k1
  rw [high_some] at k2
  exact bx_of (num_dn n) (num_up n') k1 k2
theorem bx_sub {a b c d : Nat} (ha : NumF a) (hb : NumF b) (hc : NumF c) (hd : NumF d) {x y : Rat} (h1 : FL (Fl.key a) x) (h2 : FH (Fl.key b) x) (h3 : FL (Fl.key c) y) (h4 : FH (Fl.key d) y) : Bx (oLow (oSub (some a) (some d))) (oHigh (oSub (some b) (some c))) (x - y) := by
  rw [sub_add hd, sub_add hc, Rat.sub_eq_add_neg]
  exact bx_add ha hb (num_ng hd) (num_ng hc) h1 h2 (by rw [key_ng hd.1]; exact h4.ng) (by rw [key_ng hc.1]; exact h3.ng)
theorem bx_mul {a b c d x0 x1 x2 x3 m M : Nat} (ha : NumF a) (hb : NumF b) (hc : NumF c) (hd : NumF d) (e0 : oTim (some a) (some c) = some x0) (e1 : oTim (some a) (some d) = some x1) (e2 : oTim (some b) (some c) = some x2) (e3 : oTim (some b) (some d) = some x3) (n0 : NumF x0) (n1 : NumF x1) (n2 : NumF x2) (n3 : NumF x3) (hm : Lst (pk4 x0 x1 x2 x3) 4 m) (hM : Mst (pk4 x0 x1 x2 x3) 4 M) {x y : Rat} (h1 : FL (Fl.key a) x) (h2 : FH (Fl.key b) x) (h3 : FL (Fl.key c) y) (h4 : FH (Fl.key d) y) : Bx (oDn (some m)) (oUp (some M)) (x * y) := by
  obtain ⟨k1, k2⟩ := mul_fits ha hb hc hd e0 e1 e2 e3 hm hM h1 h2 h3 h4
  exact bx_of (num_dn (lst_num (pk4_num n0 n1 n2 n3) hm)) (num_up (mst_num (pk4_num n0 n1 n2 n3) hM)) k1 k2
theorem sq_nn (x : Rat) : 0 ≤ x * x := by
  by_cases h : 0 ≤ x
  · exact mul_nn h h
  · have := mul_nn (x := -x) (y := -x) (by grind) (by grind)
    rwa [neg_mul_neg'] at this
theorem sq_hi {a b x y M : Nat} (ha : NumF a) (hb : NumF b) (ex : oTim (some a) (some a) = some x) (ey : oTim (some b) (some b) = some y) (nx : NumF x) (ny : NumF y) (hM : oMax (some x) (some y) = some M) {v : Rat} (h1 : FL (Fl.key a) v) (h2 : FH (Fl.key b) v) : NumF M ∧ fitsH (oUp (some M)) (v * v) = true := by
  obtain ⟨r0, f0, n0, p0⟩ := tim_PK ha ha
  obtain ⟨r3, f3, n3, p3⟩ := tim_PK hb hb
  obtain rfl : r0 = x := Option.some.inj (f0.symm.trans ex)
  obtain rfl : r3 = y := Option.some.inj (f3.symm.trans ey)
  obtain ⟨z, e, nz, _, k1, k2⟩ := max_num n0 n3
  obtain rfl : z = M := Option.some.inj (e.symm.trans hM)
  refine ⟨nz, ?_⟩
  have ra := key_rg ha
  have rb := key_rg hb
  rw [← high_some]
  refine high_FH nz ?_
  have g : ∀ {ku kr : Int} {w : Rat}, PK ku ku kr → FH ku w → 0 ≤ w → ku ≤ 9218868437227405312 → FH (kr + 1) (w * w) := fun p h hw hr => by
    have k := h.nnk hw
    have := (pk1 p.neg1 h.ng h hw (by omega) (by omega) hr).ng
    rwa [Rat.neg_mul, Rat.neg_neg, show ∀ t : Int, -(-t - 1) = t + 1 from fun t => by omega] at this
  by_cases hv : 0 ≤ v
  · exact (g p3 h2 hv rb.2).up (by omega)
  · have := g p0.neg2 h1.ng (by grind) (by omega)
    rw [neg_mul_neg'] at this
    exact this.up (by omega)
theorem sq_lo {a b x y m w : Nat} (ha : NumF a) (hb : NumF b) (ex : oTim (some a) (some a) = some x) (ey : oTim (some b) (some b) = some y) (nx : NumF x) (ny : NumF y) (hm : oMin (some x) (some y) = some m) (hw : oDn (some m) = some w) (nw' : NumF w) (hc : 0 ≤ Fl.key a ∨ Fl.key b ≤ 0) {v : Rat} (h1 : FL (Fl.key a) v) (h2 : FH (Fl.key b) v) : FL (Fl.key w) (v * v) := by
  obtain ⟨r0, f0, n0, p0⟩ := tim_PK ha ha
  obtain ⟨r3, f3, n3, p3⟩ := tim_PK hb hb
  obtain rfl : r0 = x := Option.some.inj (f0.symm.trans ex)
  obtain rfl : r3 = y := Option.some.inj (f3.symm.trans ey)
  obtain ⟨z, e, nz, _, k1, k2⟩ := min_num n0 n3
  obtain rfl : z = m := Option.some.inj (e.symm.trans hm)
  have ra := key_rg ha
  have rb := key_rg hb
  have g : ∀ {ku kr : Int} {u : Rat}, PK ku ku kr → FL ku u → 0 ≤ ku → ku ≤ 9218868437227405312 → FL (kr - 1) (u * u) := fun {ku kr u} p h hk hr => by
    have hu : 0 ≤ u := by
      rcases h with h | ⟨_, h⟩
      · omega
      · have := kv_mono hk
        rw [kv_zero] at this
        exact Rat.le_trans this h
    exact pk2 p h h hu hk (by omega)
  have key : FL (Fl.key z - 1) (v * v) := by
    rcases hc with hc | hc
    · exact (g p0 h1 hc ra.2).down (by omega)
    · have := g p3.neg2 h2.ng (by omega) (by omega)
      rw [neg_mul_neg'] at this
      exact this.down (by omega)
  have := low_FL nz key
  rw [low_some, hw] at this
  exact (fitsL_FL nw' _).1 this
theorem sqP_t (w : Nat) : sqP true w = some 0 := by unfold sqP; rw [if_pos rfl, pl0]
theorem z_key : Fl.key 0 = 0 := by decide
theorem bx_sq0 {M : Nat} (nM : NumF M) {v : Rat} {w : Nat} (h : fitsH (oUp (some M)) (v * v) = true) : Bx (sqP true w) (oUp (some M)) (v * v) ∧ oLe (fo 0) (sqP true w) = true := by
  rw [sqP_t]
  exact ⟨bx_of num0 (num_up nM) ((fitsL_FL num0 _).2 (FL.nn (sq_nn v) (by rw [z_key]; omega))) h, by decide⟩
theorem bx_sq1 {M w : Nat} (nM : NumF M) (hw : NumF w) {v : Rat} (h' : FL (Fl.key w) (v * v)) (h : fitsH (oUp (some M)) (v * v) = true) : Bx (sqP false w) (oUp (some M)) (v * v) ∧ oLe (fo 0) (sqP false w) = true := by
  unfold sqP
  obtain ⟨z, e1, e2, e3, e4⟩ := max0 hw
  rw [if_neg (by decide), e1]
  obtain ⟨u, k1, k2, k3⟩ := pl_key e2
  rw [k1]
  have kz : FL (Fl.key u) (v * v) ∧ 0 ≤ Fl.key u := by
    rw [k3]
    by_cases hn : Fl.key w < 0
    · rw [e3 hn, z_key]; exact ⟨FL.nn (sq_nn v) (by omega), by omega⟩
    · rw [e4 hn]; exact ⟨h', by omega⟩
  refine ⟨bx_of k2 (num_up nM) ((fitsL_FL k2 _).2 kz.1) h, ?_⟩
  rw [fo0]
  show decide (Fl.key 0 ≤ Fl.key u) = true
  rw [z_key]
  exact decide_eq_true kz.2
theorem le_z {a : Nat} : oLe (some a) (fo 0) = decide (Fl.key a ≤ 0) := by rw [fo0]; show decide (Fl.key a ≤ Fl.key 0) = _; rw [z_key]
theorem z_le {a : Nat} : oLe (fo 0) (some a) = decide (0 ≤ Fl.key a) := by rw [fo0]; show decide (Fl.key 0 ≤ Fl.key a) = _; rw [z_key]
/-- What is sure is so. -/
theorem cmp_so {a b c d : Nat} (ha : NumF a) (hb : NumF b) (hc : NumF c) (hd : NumF d) {x y : Rat} (h1 : FL (Fl.key a) x) (h2 : FH (Fl.key b) x) (h3 : FL (Fl.key c) y) (h4 : FH (Fl.key d) y) (hs : cmS (some a) (some b) (some c) (some d) = true) : cmN (some a) (some b) (some c) (some d) = sg (x - y).num := by
  have ra := key_rg ha
  have rb := key_rg hb
  have rc := key_rg hc
  have rd := key_rg hd
  have lt : ∀ {j k : Int} {u v : Rat}, FH j u → FL k v → j < k → -9218868437227405312 ≤ j → k ≤ 9218868437227405312 → u < v := fun {j k u v} h h' hj r1 r2 => by
    rcases h with h | ⟨_, h⟩
    · omega
    · rcases h' with h' | ⟨_, h'⟩
      · omega
      · have := kv_lt hj; grind
  unfold cmN
  by_cases g1 : oLt (some b) (some c) = true
  · rw [if_pos g1]
    have := lt h2 h3 (of_decide_eq_true g1) rb.1 rc.2
    exact ((@sg_num (x - y)).1.2 (by grind)).symm
  · rw [if_neg g1]
    by_cases g2 : oLt (some d) (some a) = true
    · rw [if_pos g2]
      have := lt h4 h1 (of_decide_eq_true g2) rd.1 ra.2
      exact ((@sg_num (x - y)).2.2.2 (by grind)).symm
    · rw [if_neg g2]
      unfold cmS at hs
      rw [if_neg (fun h => h.elim g1 g2)] at hs
      simp only [Bool.and_eq_true, Bool.not_eq_true'] at hs
      obtain ⟨⟨⟨q1, q2⟩, q3⟩, q4⟩ := hs
      have q1 : Fl.key a = Fl.key b := of_decide_eq_true q1
      have q2 : Fl.key c = Fl.key d := of_decide_eq_true q2
      have q3 : Fl.key a = Fl.key c := of_decide_eq_true q3
      have q5 : ¬ (a = 9218868437227405312 ∨ a = 18442240474082181120) := by simpa [oInf] using q4
      have fin : -9218868437227405312 < Fl.key a ∧ Fl.key a < 9218868437227405312 := by
        have hr := num_rg ha
        rw [Fl.key_of ha.1]
        split <;> omega
      have e1 : x = kv (Fl.key a) := by
        rcases h1 with h | ⟨_, h⟩
        · omega
        · rcases h2 with h' | ⟨_, h'⟩
          · omega
          · rw [← q1] at h'; exact Rat.le_antisymm h' h
      have e2 : y = kv (Fl.key a) := by
        rcases h3 with h | ⟨_, h⟩
        · omega
        · rcases h4 with h' | ⟨_, h'⟩
          · omega
          · rw [← q2, ← q3] at h'; rw [← q3] at h; exact Rat.le_antisymm h' h
      rw [e1, e2]
      exact ((@sg_num (kv (Fl.key a) - kv (Fl.key a))).2.1.2 (by grind)).symm
end Go.Proofs.Ytlmiadjogdfjkaa.V
