/- Sums and products of words, as places; the corner below and the corner above. -/
import Derived.Test.YtlmiadjogdfjkaaFw
set_option linter.unusedVariables false
set_option maxRecDepth 100000
set_option exponentiation.threshold 4000
namespace Go.Proofs.Ytlmiadjogdfjkaa.V
open Go.RowKit Mt Nml
theorem kv_neg' (k : Int) : kv (-k) = -kv k := by
  rcases Int.lt_or_le k 0 with h | h
  · obtain ⟨n, hn⟩ : ∃ n : Nat, k = -(n : Int) := ⟨k.natAbs, by omega⟩
    rw [hn, kv_neg, Int.neg_neg, kv_pos, Rat.neg_neg]
  · obtain ⟨n, hn⟩ : ∃ n : Nat, k = (n : Int) := ⟨k.natAbs, by omega⟩
    rw [hn, kv_neg, kv_pos]
theorem kv_gt0 {k : Int} (h : 0 < k) : 0 < kv k := by
  obtain ⟨n, hn⟩ : ∃ n : Nat, k = (n : Int) := ⟨k.natAbs, by omega⟩
  rw [hn, kv_pos, Rat.div_def]
  exact Rat.mul_pos (Rat.natCast_pos.2 (Fl.mag_pos.2 (by omega))) (Rat.inv_pos.2 W1_pos)
theorem kv_lt0 {k : Int} (h : k < 0) : kv k < 0 := by
  have := kv_gt0 (k := -k) (by omega)
  rw [kv_neg'] at this
  grind
theorem div_lt_W {a b : Rat} (h : a < b) : a / W1 < b / W1 := by
  rw [Rat.div_def, Rat.div_def]
  exact Rat.mul_lt_mul_of_pos_right h (Rat.inv_pos.2 W1_pos)
theorem kv_lt {j k : Int} (h : j < k) : kv j < kv k := by
  rcases Int.lt_or_le j 0 with h1 | h1
  · rcases Int.lt_or_le k 0 with h2 | h2
    · obtain ⟨m, hm⟩ : ∃ n : Nat, j = -(n : Int) := ⟨j.natAbs, by omega⟩
      obtain ⟨n, hn⟩ : ∃ n : Nat, k = -(n : Int) := ⟨k.natAbs, by omega⟩
      rw [hm, hn, kv_neg, kv_neg]
      have := div_lt_W (Rat.natCast_lt_natCast.2 (Fl.mag_lt (by omega : n < m)))
      grind
    · have a := kv_lt0 h1
      have b := kv_mono h2
      rw [kv_zero] at b
      grind
  · obtain ⟨m, hm⟩ : ∃ n : Nat, j = (n : Int) := ⟨j.natAbs, by omega⟩
    obtain ⟨n, hn⟩ : ∃ n : Nat, k = (n : Int) := ⟨k.natAbs, by omega⟩
    rw [hm, hn, kv_pos, kv_pos]
    exact div_lt_W (Rat.natCast_lt_natCast.2 (Fl.mag_lt (by omega)))
theorem FL.ng {k : Int} {v : Rat} (h : FL k v) : FH (-k) (-v) := by
  rcases h with h | ⟨h1, h2⟩
  · exact .inl (by omega)
  · refine .inr ⟨by omega, ?_⟩
    rw [kv_neg']
    exact Rat.neg_le_neg h2
theorem FH.ng {k : Int} {v : Rat} (h : FH k v) : FL (-k) (-v) := by
  rcases h with h | ⟨h1, h2⟩
  · exact .inl (by omega)
  · refine .inr ⟨by omega, ?_⟩
    rw [kv_neg']
    exact Rat.neg_le_neg h2
theorem FL.nn {v : Rat} (h : 0 ≤ v) {k : Int} (hk : k ≤ 0) : FL k v := by
  have := kv_mono hk
  rw [kv_zero] at this
  exact .inr ⟨by omega, Rat.le_trans this h⟩
theorem FH.np {v : Rat} (h : v ≤ 0) {k : Int} (hk : 0 ≤ k) : FH k v := by
  have := kv_mono hk
  rw [kv_zero] at this
  exact .inr ⟨by omega, Rat.le_trans h this⟩
theorem FH.nnk {v : Rat} {k : Int} (h : FH k v) (hv : 0 ≤ v) : 0 ≤ k := by
  rcases h with h | ⟨h1, h2⟩
  · omega
  · rcases Int.lt_or_le k 0 with h3 | h3
    · have := kv_lt0 h3; grind
    · exact h3
theorem sgn_neg {x : Nat} (h : Fl.key x < 0) : Fl.sgn x = true := by
  cases hs : Fl.sgn x
  · have : Fl.key x = (Fl.rung x : Int) := by unfold Fl.key; rw [hs]; rfl
    omega
  · rfl
theorem sgn_pos {x : Nat} (h : 0 < Fl.key x) : Fl.sgn x = false := by
  cases hs : Fl.sgn x
  · rfl
  · have : Fl.key x = -(Fl.rung x : Int) := by unfold Fl.key; rw [hs]; rfl
    omega
theorem rung_key (x : Nat) : Fl.rung x = (Fl.key x).natAbs := by unfold Fl.key; split <;> omega
theorem word_cases {x : Nat} (h : NumF x) : (Fl.key x = -9218868437227405312 ∧ Ieee.double.read x = .infinity true) ∨ (Fl.key x = 9218868437227405312 ∧ Ieee.double.read x = .infinity false) ∨ (-9218868437227405312 < Fl.key x ∧ Fl.key x < 9218868437227405312) := by
  have hr := key_rg h
  have hk := rung_key x
  by_cases h1 : Fl.key x = -9218868437227405312
  · exact .inl ⟨h1, by rw [Fl.read_inf (by unfold Fl.INF; omega), sgn_neg (by omega)]⟩
  · by_cases h2 : Fl.key x = 9218868437227405312
    · exact .inr (.inl ⟨h2, by rw [Fl.read_inf (by unfold Fl.INF; omega), sgn_pos (by omega)]⟩)
    · exact .inr (.inr (by omega))
theorem wr_inf (s : Bool) : Ieee.double.write (.infinity s) = Ieee.double.word s 9218868437227405312 := by
  show Ieee.double.word s Ieee.double.infRung = _
  rw [Fl.d_inf]
theorem num_word (s : Bool) {r : Nat} (h : r ≤ 9218868437227405312) : NumF (Ieee.double.word s r) := ⟨by unfold Ieee.Format.word; rw [Fl.d_sw]; split <;> omega, word_nn s h⟩
theorem key_winf (s : Bool) : Fl.key (Ieee.double.word s 9218868437227405312) = if s then -9218868437227405312 else 9218868437227405312 := key_word (by omega)
/-- How a sum's place lies to its parts' places. -/
def SK (ku kz kr : Int) : Prop := (-9218868437227405312 < ku → ku < 9218868437227405312 → -9218868437227405312 < kz → kz < 9218868437227405312 → FL (kr - 1) (kv ku + kv kz) ∧ FH (kr + 1) (kv ku + kv kz)) ∧ (ku = -9218868437227405312 ∨ kz = -9218868437227405312 → kr = -9218868437227405312) ∧ (ku = 9218868437227405312 ∨ kz = 9218868437227405312 → kr = 9218868437227405312)
open Ieee in
theorem add_SK {x z : Nat} (hx : NumF x) (hz : NumF z) (h : ¬ (Fl.key x = 9218868437227405312 ∧ Fl.key z = -9218868437227405312)) (h' : ¬ (Fl.key x = -9218868437227405312 ∧ Fl.key z = 9218868437227405312)) : ∃ r, oAdd (some x) (some z) = some r ∧ NumF r ∧ SK (Fl.key x) (Fl.key z) (Fl.key r) := by
  show ∃ r, ((double.read x).sum (double.read z)).map double.write = some r ∧ _
  have ni : ∀ s, (s = true ∧ (Fl.key x = -9218868437227405312 ∨ Fl.key z = -9218868437227405312)) ∨ (s = false ∧ (Fl.key x = 9218868437227405312 ∨ Fl.key z = 9218868437227405312)) → NumF (double.write (.infinity s)) ∧ SK (Fl.key x) (Fl.key z) (Fl.key (double.write (.infinity s))) := fun s hs => by
    rw [wr_inf]
    refine ⟨num_word s (by omega), ?_⟩
    rw [key_winf]
    rcases hs with ⟨rfl, hs⟩ | ⟨rfl, hs⟩
    · refine ⟨fun _ _ _ _ => by omega, fun _ => rfl, fun _ => by omega⟩
    · refine ⟨fun _ _ _ _ => by omega, fun _ => by omega, fun _ => rfl⟩
  rcases word_cases hx with ⟨k1, e1⟩ | ⟨k1, e1⟩ | ⟨k1, k2⟩
  · rcases word_cases hz with ⟨k3, e3⟩ | ⟨k3, e3⟩ | ⟨k3, k4⟩
    · rw [e1, e3]; exact ⟨_, rfl, ni true (.inl ⟨rfl, .inl k1⟩)⟩
    · exact absurd ⟨k1, k3⟩ h'
    · obtain ⟨m, i, h3, h4⟩ := read_kv hz k3 k4
      rw [e1, h3]; exact ⟨_, rfl, ni true (.inl ⟨rfl, .inl k1⟩)⟩
  · rcases word_cases hz with ⟨k3, e3⟩ | ⟨k3, e3⟩ | ⟨k3, k4⟩
    · exact absurd ⟨k1, k3⟩ h
    · rw [e1, e3]; exact ⟨_, rfl, ni false (.inr ⟨rfl, .inl k1⟩)⟩
    · obtain ⟨m, i, h3, h4⟩ := read_kv hz k3 k4
      rw [e1, h3]; exact ⟨_, rfl, ni false (.inr ⟨rfl, .inl k1⟩)⟩
  · obtain ⟨m, i, h3, h4⟩ := read_kv hx k1 k2
    rcases word_cases hz with ⟨k3, e3⟩ | ⟨k3, e3⟩ | ⟨k3, k4⟩
    · rw [h3, e3]; exact ⟨_, rfl, ni true (.inl ⟨rfl, .inr k3⟩)⟩
    · rw [h3, e3]; exact ⟨_, rfl, ni false (.inr ⟨rfl, .inr k3⟩)⟩
    · obtain ⟨n, j, h5, h6⟩ := read_kv hz k3 k4
      rw [h3, h5]
      obtain ⟨d, hd⟩ : ∃ d, (Datum.number (Fl.sgn x) m (-1074 + (i : Int))).sum (Datum.number (Fl.sgn z) n (-1074 + (j : Int))) = some d := ⟨_, rfl⟩
      obtain ⟨S, U, e, rfl, h7⟩ := sum_kv hd
      rw [hd]
      refine ⟨double.nearest S U e, rfl, num_near S U e, fun _ _ _ _ => ?_, fun _ => by omega, fun _ => by omega⟩
      have := near_between S U e
      rw [h7, ← h4, ← h6] at this
      exact this
theorem SK.low {ku kz kr : Int} {x y : Rat} (h : SK ku kz kr) (hx : FL ku x) (hy : FL kz y) (r1 : -9218868437227405312 ≤ ku) (r2 : -9218868437227405312 ≤ kz) : FL (kr - 1) (x + y) := by
  by_cases h1 : ku = -9218868437227405312 ∨ kz = -9218868437227405312
  · exact .inl (by have := h.2.1 h1; omega)
  · rcases hx with hx | ⟨hx, vx⟩
    · omega
    · rcases hy with hy | ⟨hy, vy⟩
      · omega
      · exact (h.1 (by omega) hx (by omega) hy).1.up (by grind)
theorem SK.high {ku kz kr : Int} {x y : Rat} (h : SK ku kz kr) (hx : FH ku x) (hy : FH kz y) (r1 : ku ≤ 9218868437227405312) (r2 : kz ≤ 9218868437227405312) : FH (kr + 1) (x + y) := by
  by_cases h1 : ku = 9218868437227405312 ∨ kz = 9218868437227405312
  · exact .inl (by have := h.2.2 h1; omega)
  · rcases hx with hx | ⟨hx, vx⟩
    · omega
    · rcases hy with hy | ⟨hy, vy⟩
      · omega
      · exact (h.1 hx (by omega) hy (by omega)).2.down (by grind)
theorem add_fits {a b c d : Nat} (ha : NumF a) (hb : NumF b) (hc : NumF c) (hd : NumF d) {x y : Rat} (h1 : FL (Fl.key a) x) (h2 : FH (Fl.key b) x) (h3 : FL (Fl.key c) y) (h4 : FH (Fl.key d) y) : fitsL (oLow (oAdd (some a) (some c))) (x + y) = true ∧ fitsH (oHigh (oAdd (some b) (some d))) (x + y) = true := by
  have ra := key_rg ha
  have rb := key_rg hb
  have rc := key_rg hc
  have rd := key_rg hd
  obtain ⟨r, e, n, k⟩ := add_SK ha hc (fun hh => by rcases h1 with h | h <;> omega) (fun hh => by rcases h3 with h | h <;> omega)
  obtain ⟨r', e', n', k'⟩ := add_SK hb hd (fun hh => by rcases h4 with h | h <;> omega) (fun hh => by rcases h2 with h | h <;> omega)
  rw [e, e']
  exact ⟨low_FL n (k.low h1 h3 ra.1 rc.1), high_FH n' (k'.high h2 h4 rb.2 rd.2)⟩
theorem rung_ng {y : Nat} (h : y < 18446744073709551616) : Fl.rung (Fl.ng y) = Fl.rung y := by
  rw [Fl.rung_of (Fl.ng_lt h), Fl.rung_of h, ng_eq h]
  split <;> split <;> omega
theorem sgn_ng {y : Nat} (h : y < 18446744073709551616) : Fl.sgn (Fl.ng y) = !Fl.sgn y := by
  unfold Fl.sgn
  rw [ng_eq h]
  by_cases hh : 9223372036854775808 ≤ y
  · rw [if_pos hh, show (y - 9223372036854775808) / 9223372036854775808 % 2 = 0 by omega, show y / 9223372036854775808 % 2 = 1 by omega]; rfl
  · rw [if_neg hh, show (y + 9223372036854775808) / 9223372036854775808 % 2 = 1 by omega, show y / 9223372036854775808 % 2 = 0 by omega]; rfl
open Ieee in
theorem read_ng {y : Nat} (h : NumF y) : double.read (Fl.ng y) = (double.read y).opposite := by
  have h2 : ¬ Fl.INF < Fl.rung y := of_decide_eq_false h.2
  unfold Fl.INF at h2
  have g : ∀ b, ¬ 9218868437227405312 < Fl.rung b → double.read b = (if Fl.rung b < 4503599627370496 then Datum.number (Fl.sgn b) (Fl.rung b) (-1074) else if Fl.rung b < 9218868437227405312 then .number (Fl.sgn b) (4503599627370496 + Fl.rung b % 4503599627370496) (-1074 + (Fl.rung b / 4503599627370496 - 1 : Nat)) else .infinity (Fl.sgn b)) := fun b hb => by
    unfold Format.read
    rw [Fl.d_sw, Fl.d_bin, Fl.d_inf, Fl.d_least]
    show (if Fl.rung b < 4503599627370496 then Datum.number (Fl.sgn b) (Fl.rung b) (-1074) else if Fl.rung b < 9218868437227405312 then .number (Fl.sgn b) (4503599627370496 + Fl.rung b % 4503599627370496) (-1074 + (Fl.rung b / 4503599627370496 - 1 : Nat)) else if Fl.rung b = 9218868437227405312 then .infinity (Fl.sgn b) else _) = _
    split
    · rfl
    · split
      · rfl
      · rw [if_pos (by omega)]
  rw [g _ (by rw [rung_ng h.1]; exact h2), g _ h2, rung_ng h.1, sgn_ng h.1]
  split
  · rfl
  · split <;> rfl
theorem sub_add {x y : Nat} (h : NumF y) : oSub (some x) (some y) = oAdd (some x) (some (Fl.ng y)) := by
  show (((Ieee.double.read x).sum (Ieee.double.read y).opposite).map Ieee.double.write) = (((Ieee.double.read x).sum (Ieee.double.read (Fl.ng y))).map Ieee.double.write)
  rw [read_ng h]
theorem sub_fits {a b c d : Nat} (ha : NumF a) (hb : NumF b) (hc : NumF c) (hd : NumF d) {x y : Rat} (h1 : FL (Fl.key a) x) (h2 : FH (Fl.key b) x) (h3 : FL (Fl.key c) y) (h4 : FH (Fl.key d) y) : fitsL (oLow (oSub (some a) (some d))) (x - y) = true ∧ fitsH (oHigh (oSub (some b) (some c))) (x - y) = true := by
  rw [sub_add hd, sub_add hc, Rat.sub_eq_add_neg]
  exact add_fits ha hb (num_ng hd) (num_ng hc) h1 h2 (by rw [key_ng hd.1]; exact h4.ng) (by rw [key_ng hc.1]; exact h3.ng)
/-- How a product's place lies to its parts' places, by the rule that nothing times anything is nothing. -/
def PK (ku kz kr : Int) : Prop := (ku = 0 ∨ kz = 0 → kr = 0) ∧ (-9218868437227405312 < ku → ku < 9218868437227405312 → -9218868437227405312 < kz → kz < 9218868437227405312 → FL (kr - 1) (kv ku * kv kz) ∧ FH (kr + 1) (kv ku * kv kz)) ∧ (ku = 9218868437227405312 ∨ ku = -9218868437227405312 ∨ kz = 9218868437227405312 ∨ kz = -9218868437227405312 → (0 < ku ∧ 0 < kz ∨ ku < 0 ∧ kz < 0 → kr = 9218868437227405312) ∧ (0 < ku ∧ kz < 0 ∨ ku < 0 ∧ 0 < kz → kr = -9218868437227405312))
theorem PK.comm {ku kz kr : Int} (h : PK ku kz kr) : PK kz ku kr := ⟨fun k => h.1 k.symm, fun a b c d => by rw [Rat.mul_comm]; exact h.2.1 c d a b, fun k => ⟨fun e => (h.2.2 (by omega)).1 (by omega), fun e => (h.2.2 (by omega)).2 (by omega)⟩⟩
theorem PK.neg1 {ku kz kr : Int} (h : PK ku kz kr) : PK (-ku) kz (-kr) := ⟨fun k => by have := h.1 (by omega); omega, fun a b c d => by
    have := h.2.1 (by omega) (by omega) c d
    rw [kv_neg', Rat.neg_mul]
    have k1 := this.2.ng
    have k2 := this.1.ng
    rw [show -(kr + 1) = -kr - 1 by omega] at k1
    rw [show -(kr - 1) = -kr + 1 by omega] at k2
    exact ⟨k1, k2⟩, fun k => ⟨fun e => by have := (h.2.2 (by omega)).2 (by omega); omega, fun e => by have := (h.2.2 (by omega)).1 (by omega); omega⟩⟩
theorem PK.neg2 {ku kz kr : Int} (h : PK ku kz kr) : PK (-ku) (-kz) kr := by
  have := h.neg1.comm.neg1.comm
  rwa [Int.neg_neg] at this
theorem rvq_two (t k c : Nat) (e : Int) (h : e = (k : Int) - (c : Int)) : rvq t e = ((t * 2 ^ k : Nat) : Rat) / ((2 ^ c : Nat) : Rat) := by
  unfold rvq
  have n1 := pw_ne (-e).toNat
  have n2 := pw_ne c
  have e1 : t * 2 ^ e.toNat * 2 ^ c = t * 2 ^ k * 2 ^ (-e).toNat := by rw [Nat.mul_assoc, Nat.mul_assoc, ← Nat.pow_add, ← Nat.pow_add, show e.toNat + c = k + (-e).toNat by omega]
  have e2 : ((t * 2 ^ e.toNat : Nat) : Rat) * ((2 ^ c : Nat) : Rat) = ((t * 2 ^ k : Nat) : Rat) * ((2 ^ (-e).toNat : Nat) : Rat) := by rw [← Rat.natCast_mul, ← Rat.natCast_mul, e1]
  generalize ((t * 2 ^ e.toNat : Nat) : Rat) = p at e2 ⊢
  generalize ((t * 2 ^ k : Nat) : Rat) = q at e2 ⊢
  generalize ((2 ^ (-e).toNat : Nat) : Rat) = r at e2 n1 ⊢
  generalize ((2 ^ c : Nat) : Rat) = s at e2 n2 ⊢
  grind
theorem rvq_prod (m n i j : Nat) : rvq (m * n) (-1074 + (i : Int) + (-1074 + (j : Int))) = ((m * 2 ^ i : Nat) : Rat) / W1 * (((n * 2 ^ j : Nat) : Rat) / W1) := by
  rw [rvq_two (m * n) (i + j) (1074 + 1074) _ (by omega), pw_cast, show m * n * 2 ^ (i + j) = m * 2 ^ i * (n * 2 ^ j) by rw [Nat.pow_add]; ac_rfl, Rat.natCast_mul]
  have n1 := W1_ne
  show _ / (W1 * W1) = _
  generalize ((m * 2 ^ i : Nat) : Rat) = p
  generalize ((n * 2 ^ j : Nat) : Rat) = q
  generalize W1 = r at n1
  grind
theorem sgnq_mul (s t : Bool) (v w : Rat) : sgnq (s ^^ t) (v * w) = sgnq s v * sgnq t w := by
  cases s <;> cases t <;> simp only [sgnq, Bool.false_eq_true, if_false, if_true, Bool.xor_false, Bool.xor_true, Bool.not_false, Bool.not_true, Bool.false_xor, Bool.true_xor] <;> grind
theorem kv_inj0 {k : Int} (h : kv k = 0) : k = 0 := by
  rcases Int.lt_trichotomy k 0 with h1 | h1 | h1
  · have := kv_lt0 h1; grind
  · exact h1
  · have := kv_gt0 h1; grind
theorem read_m_ne {x : Nat} {s : Bool} {m i : Nat} (hk : kv (Fl.key x) = sgnq s (((m * 2 ^ i : Nat) : Rat) / W1)) (h : Fl.key x ≠ 0) : m ≠ 0 := fun e => h (kv_inj0 (by
  rw [hk, e, Nat.zero_mul]
  cases s <;> simp [sgnq, Rat.div_def]))
theorem zk {x : Nat} : oEq (some x) (fo 0) = true ↔ Fl.key x = 0 := by
  rw [fo0]
  show decide (Fl.key x = Fl.key 0) = true ↔ _
  rw [decide_eq_true_iff, show Fl.key 0 = 0 from by decide]
open Ieee in
theorem tim_PK {x z : Nat} (hx : NumF x) (hz : NumF z) : ∃ r, oTim (some x) (some z) = some r ∧ NumF r ∧ PK (Fl.key x) (Fl.key z) (Fl.key r) := by
  by_cases h0 : Fl.key x = 0 ∨ Fl.key z = 0
  · refine ⟨0, by unfold oTim; rw [if_pos (h0.imp zk.2 zk.2)], num0, ?_⟩
    rw [show Fl.key 0 = 0 from by decide]
    refine ⟨fun _ => rfl, fun _ _ _ _ => ?_, fun _ => by omega⟩
    have : kv (Fl.key x) * kv (Fl.key z) = 0 := by rcases h0 with h | h <;> rw [h, kv_zero] <;> grind
    rw [this]
    exact ⟨FL.nn (by decide) (by omega), FH.np (by decide) (by omega)⟩
  · have f1 : oTim (some x) (some z) = ((double.read x).product (double.read z)).map double.write := by
      unfold oTim
      rw [if_neg (fun h => h0 (h.imp zk.1 zk.1))]
      rfl
    rw [f1]
    have ni : ∀ s, (Fl.key x = 9218868437227405312 ∨ Fl.key x = -9218868437227405312 ∨ Fl.key z = 9218868437227405312 ∨ Fl.key z = -9218868437227405312) → s = (Fl.sgn x ^^ Fl.sgn z) → NumF (double.write (.infinity s)) ∧ PK (Fl.key x) (Fl.key z) (Fl.key (double.write (.infinity s))) := fun s hi hs => by
      rw [wr_inf]
      refine ⟨num_word s (by omega), ?_⟩
      rw [key_winf]
      refine ⟨fun h => absurd h h0, fun _ _ _ _ => by omega, fun _ => ⟨fun h => ?_, fun h => ?_⟩⟩
      · rw [hs]
        rcases h with ⟨a, b⟩ | ⟨a, b⟩
        · rw [sgn_pos a, sgn_pos b]; rfl
        · rw [sgn_neg a, sgn_neg b]; rfl
      · rw [hs]
        rcases h with ⟨a, b⟩ | ⟨a, b⟩
        · rw [sgn_pos a, sgn_neg b]; rfl
        · rw [sgn_neg a, sgn_pos b]; rfl
    rcases word_cases hx with ⟨k1, e1⟩ | ⟨k1, e1⟩ | ⟨k1, k2⟩
    · have s1 := sgn_neg (x := x) (by omega)
      rcases word_cases hz with ⟨k3, e3⟩ | ⟨k3, e3⟩ | ⟨k3, k4⟩
      · rw [e1, e3]; exact ⟨_, rfl, ni _ (by omega) (by rw [s1, sgn_neg (by omega)])⟩
      · rw [e1, e3]; exact ⟨_, rfl, ni _ (by omega) (by rw [s1, sgn_pos (by omega)])⟩
      · obtain ⟨m, i, h3, h4⟩ := read_kv hz k3 k4
        have hm := read_m_ne h4 (fun h => h0 (.inr h))
        rw [e1, h3]; exact ⟨_, by simp only [Datum.product]; rw [if_neg hm]; rfl, ni _ (by omega) (by rw [s1])⟩
    · have s1 := sgn_pos (x := x) (by omega)
      rcases word_cases hz with ⟨k3, e3⟩ | ⟨k3, e3⟩ | ⟨k3, k4⟩
      · rw [e1, e3]; exact ⟨_, rfl, ni _ (by omega) (by rw [s1, sgn_neg (by omega)])⟩
      · rw [e1, e3]; exact ⟨_, rfl, ni _ (by omega) (by rw [s1, sgn_pos (by omega)])⟩
      · obtain ⟨m, i, h3, h4⟩ := read_kv hz k3 k4
        have hm := read_m_ne h4 (fun h => h0 (.inr h))
        rw [e1, h3]; exact ⟨_, by simp only [Datum.product]; rw [if_neg hm]; rfl, ni _ (by omega) (by rw [s1])⟩
    · obtain ⟨m, i, h3, h4⟩ := read_kv hx k1 k2
      have hm := read_m_ne h4 (fun h => h0 (.inl h))
      rcases word_cases hz with ⟨k3, e3⟩ | ⟨k3, e3⟩ | ⟨k3, k4⟩
      · have s1 := sgn_neg (x := z) (by omega)
        rw [h3, e3]; exact ⟨_, by simp only [Datum.product]; rw [if_neg hm]; rfl, ni _ (by omega) (by rw [s1, Bool.xor_comm])⟩
      · have s1 := sgn_pos (x := z) (by omega)
        rw [h3, e3]; exact ⟨_, by simp only [Datum.product]; rw [if_neg hm]; rfl, ni _ (by omega) (by rw [s1, Bool.xor_comm])⟩
      · obtain ⟨n, j, h5, h6⟩ := read_kv hz k3 k4
        rw [h3, h5]
        refine ⟨double.nearest (Fl.sgn x ^^ Fl.sgn z) (m * n) (-1074 + (i : Int) + (-1074 + (j : Int))), rfl, num_near _ _ _, fun h => absurd h h0, fun _ _ _ _ => ?_, fun _ => by omega⟩
        have := near_between (Fl.sgn x ^^ Fl.sgn z) (m * n) (-1074 + (i : Int) + (-1074 + (j : Int)))
        rw [rvq_prod, sgnq_mul, ← h4, ← h6] at this
        exact this
theorem mul_nn {x y : Rat} (hx : 0 ≤ x) (hy : 0 ≤ y) : 0 ≤ x * y := Rat.mul_nonneg hx hy
theorem pk1 {ku kz kr : Int} {x y : Rat} (h : PK ku kz kr) (hx : FL ku x) (hz : FH kz y) (hy : 0 ≤ y) (hu : ku ≤ 0) (r1 : -9218868437227405312 ≤ ku) (r2 : kz ≤ 9218868437227405312) : FL (kr - 1) (x * y) := by
  have hz0 := hz.nnk hy
  by_cases h1 : ku = -9218868437227405312
  · by_cases h2 : kz = 0
    · have hr := h.1 (.inr h2)
      rcases hz with hz | ⟨_, hz⟩
      · omega
      · rw [h2, kv_zero] at hz
        have : y = 0 := Rat.le_antisymm hz hy
        rw [this, Rat.mul_zero]
        exact FL.nn (by decide) (by omega)
    · exact .inl (by have := (h.2.2 (by omega)).2 (by omega); omega)
  · rcases hx with hx | ⟨_, hx⟩
    · omega
    · by_cases h2 : kz = 9218868437227405312
      · by_cases h3 : ku = 0
        · have hr := h.1 (.inl h3)
          rw [h3, kv_zero] at hx
          exact FL.nn (mul_nn hx hy) (by omega)
        · exact .inl (by have := (h.2.2 (by omega)).2 (by omega); omega)
      · rcases hz with hz | ⟨_, hz⟩
        · omega
        · refine (h.2.1 (by omega) (by omega) (by omega) (by omega)).1.up ?_
          have k1 := kv_mono hu
          rw [kv_zero] at k1
          have a := mul_nn (x := -kv ku) (y := kv kz - y) (by grind) (by grind)
          have b := mul_nn (x := x - kv ku) (y := y) (by grind) hy
          grind
theorem pk2 {ku kz kr : Int} {x y : Rat} (h : PK ku kz kr) (hx : FL ku x) (hz : FL kz y) (hy : 0 ≤ y) (hu : 0 ≤ ku) (r2 : -9218868437227405312 ≤ kz) : FL (kr - 1) (x * y) := by
  rcases hx with hx | ⟨hx', hx⟩
  · omega
  · have k1 := kv_mono hu
    rw [kv_zero] at k1
    by_cases h2 : kz = -9218868437227405312
    · by_cases h3 : ku = 0
      · have hr := h.1 (.inl h3)
        exact FL.nn (mul_nn (Rat.le_trans k1 hx) hy) (by omega)
      · exact .inl (by have := (h.2.2 (by omega)).2 (by omega); omega)
    · rcases hz with hz | ⟨hz', hz⟩
      · omega
      · refine (h.2.1 (by omega) (by omega) (by omega) (by omega)).1.up ?_
        have a := mul_nn (x := kv ku) (y := y - kv kz) k1 (by grind)
        have b := mul_nn (x := x - kv ku) (y := y) (by grind) hy
        grind
theorem neg_mul_neg' (x y : Rat) : -x * -y = x * y := by grind
theorem corner_low {ka kb kc kd k0 k1 k2 k3 : Int} {x y : Rat} (p0 : PK ka kc k0) (p1 : PK ka kd k1) (p2 : PK kb kc k2) (p3 : PK kb kd k3) (h1 : FL ka x) (h2 : FH kb x) (h3 : FL kc y) (h4 : FH kd y) (r1 : -9218868437227405312 ≤ ka) (r2 : kb ≤ 9218868437227405312) (r3 : -9218868437227405312 ≤ kc) (r4 : kd ≤ 9218868437227405312) : FL (k0 - 1) (x * y) ∨ FL (k1 - 1) (x * y) ∨ FL (k2 - 1) (x * y) ∨ FL (k3 - 1) (x * y) := by
  by_cases hy : 0 ≤ y
  · rcases Int.le_total ka 0 with h | h
    · exact .inr (.inl (pk1 p1 h1 h4 hy h r1 r4))
    · exact .inl (pk2 p0 h1 h3 hy h r3)
  · have hy' : 0 ≤ -y := by grind
    rcases Int.le_total 0 kb with h | h
    · have := pk1 p2.neg2 h2.ng h3.ng hy' (by omega) (by omega) (by omega)
      rw [neg_mul_neg'] at this
      exact .inr (.inr (.inl this))
    · have := pk2 p3.neg2 h2.ng h4.ng hy' (by omega) (by omega)
      rw [neg_mul_neg'] at this
      exact .inr (.inr (.inr this))
theorem corner_high {ka kb kc kd k0 k1 k2 k3 : Int} {x y : Rat} (p0 : PK ka kc k0) (p1 : PK ka kd k1) (p2 : PK kb kc k2) (p3 : PK kb kd k3) (h1 : FL ka x) (h2 : FH kb x) (h3 : FL kc y) (h4 : FH kd y) (r1 : -9218868437227405312 ≤ ka) (r2 : kb ≤ 9218868437227405312) (r3 : -9218868437227405312 ≤ kc) (r4 : kd ≤ 9218868437227405312) : FH (k0 + 1) (x * y) ∨ FH (k1 + 1) (x * y) ∨ FH (k2 + 1) (x * y) ∨ FH (k3 + 1) (x * y) := by
  have g : ∀ k, FL (-k - 1) (-x * y) → FH (k + 1) (x * y) := fun k h => by
    have := h.ng
    rwa [show -(-k - 1) = k + 1 by omega, Rat.neg_mul, Rat.neg_neg] at this
  rcases corner_low p2.neg1 p3.neg1 p0.neg1 p1.neg1 h2.ng h1.ng h3 h4 (by omega) (by omega) r3 r4 with h | h | h | h
  · exact .inr (.inr (.inl (g _ h)))
  · exact .inr (.inr (.inr (g _ h)))
  · exact .inl (g _ h)
  · exact .inr (.inl (g _ h))
theorem mul_fits {a b c d x0 x1 x2 x3 m M : Nat} (ha : NumF a) (hb : NumF b) (hc : NumF c) (hd : NumF d) (e0 : oTim (some a) (some c) = some x0) (e1 : oTim (some a) (some d) = some x1) (e2 : oTim (some b) (some c) = some x2) (e3 : oTim (some b) (some d) = some x3) (hm : Lst (pk4 x0 x1 x2 x3) 4 m) (hM : Mst (pk4 x0 x1 x2 x3) 4 M) {x y : Rat} (h1 : FL (Fl.key a) x) (h2 : FH (Fl.key b) x) (h3 : FL (Fl.key c) y) (h4 : FH (Fl.key d) y) : fitsL (oDn (some m)) (x * y) = true ∧ fitsH (oUp (some M)) (x * y) = true := by
  have ra := key_rg ha
  have rb := key_rg hb
  have rc := key_rg hc
  have rd := key_rg hd
  obtain ⟨r0, f0, n0, p0⟩ := tim_PK ha hc
  obtain ⟨r1, f1, n1, p1⟩ := tim_PK ha hd
  obtain ⟨r2, f2, n2, p2⟩ := tim_PK hb hc
  obtain ⟨r3, f3, n3, p3⟩ := tim_PK hb hd
  obtain rfl : r0 = x0 := Option.some.inj (f0.symm.trans e0)
  obtain rfl : r1 = x1 := Option.some.inj (f1.symm.trans e1)
  obtain rfl : r2 = x2 := Option.some.inj (f2.symm.trans e2)
  obtain rfl : r3 = x3 := Option.some.inj (f3.symm.trans e3)
  have nm := lst_num (pk4_num n0 n1 n2 n3) hm
  have nM := mst_num (pk4_num n0 n1 n2 n3) hM
  constructor
  · rw [← low_some]
    refine low_FL nm ?_
    rcases corner_low p0 p1 p2 p3 h1 h2 h3 h4 ra.1 rb.2 rc.1 rd.2 with h | h | h | h
    · exact h.down (by have : Fl.key m ≤ Fl.key r0 := hm.2 0 (by omega); omega)
    · exact h.down (by have : Fl.key m ≤ Fl.key r1 := hm.2 1 (by omega); omega)
    · exact h.down (by have : Fl.key m ≤ Fl.key r2 := hm.2 2 (by omega); omega)
    · exact h.down (by have : Fl.key m ≤ Fl.key r3 := hm.2 3 (by omega); omega)
  · rw [← high_some]
    refine high_FH nM ?_
    rcases corner_high p0 p1 p2 p3 h1 h2 h3 h4 ra.1 rb.2 rc.1 rd.2 with h | h | h | h
    · exact h.up (by have : Fl.key r0 ≤ Fl.key M := hM.2 0 (by omega); omega)
    · exact h.up (by have : Fl.key r1 ≤ Fl.key M := hM.2 1 (by omega); omega)
    · exact h.up (by have : Fl.key r2 ≤ Fl.key M := hM.2 2 (by omega); omega)
    · exact h.up (by have : Fl.key r3 ≤ Fl.key M := hM.2 3 (by omega); omega)
end Go.Proofs.Ytlmiadjogdfjkaa.V
