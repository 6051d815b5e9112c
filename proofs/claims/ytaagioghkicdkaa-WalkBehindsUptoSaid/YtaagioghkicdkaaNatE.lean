/- Contracts of package nat: differences, one limb as a divisor. -/
import Derived.Test.YtaagioghkicdkaaNatD
set_option linter.unusedVariables false
set_option linter.unusedSimpArgs false
namespace Go.Proofs.Ytaagioghkicdkaa
open Go.RowKit Go.Proofs.YtaagioghkicdkaaW.PrintWords Mt

theorem or_u64 (i : Nat) {x y : Int} (hx0 : 0 ≤ x) (hx1 : x < 18446744073709551616) (hx : x % 2 ^ i = 0) (hy0 : 0 ≤ y) (hy1 : y < 2 ^ i) (hy2 : y < 18446744073709551616) : bits .or .u64 x y = x + y := by
  obtain ⟨a, rfl⟩ := Int.eq_ofNat_of_zero_le hx0
  obtain ⟨b, rfl⟩ := Int.eq_ofNat_of_zero_le hy0
  rw [u64_or_nat a b (by omega) (by omega)]
  have hb : b < 2 ^ i := by exact_mod_cast hy1
  have ha : a % 2 ^ i = 0 := by exact_mod_cast hx
  have e : a = 2 ^ i * (a / 2 ^ i) := by have := Nat.mod_add_div a (2 ^ i); omega
  have := Nat.two_pow_add_eq_or_of_lt hb (a / 2 ^ i)
  rw [← e] at this
  rw [← this]
  simp
theorem or_u64_swap {x y : Int} (hx0 : 0 ≤ x) (hx1 : x < 18446744073709551616) (hy0 : 0 ≤ y) (hy1 : y < 18446744073709551616) : bits .or .u64 x y = bits .or .u64 y x := by
  obtain ⟨a, rfl⟩ := Int.eq_ofNat_of_zero_le hx0
  obtain ⟨b, rfl⟩ := Int.eq_ofNat_of_zero_le hy0
  rw [u64_or_nat a b (by omega) (by omega), u64_or_nat b a (by omega) (by omega), Nat.or_comm]
theorem or_u32_swap {x y : Int} (hx0 : 0 ≤ x) (hx1 : x < 4294967296) (hy0 : 0 ≤ y) (hy1 : y < 4294967296) : bits .or .u32 x y = bits .or .u32 y x := by
  obtain ⟨a, rfl⟩ := Int.eq_ofNat_of_zero_le hx0
  obtain ⟨b, rfl⟩ := Int.eq_ofNat_of_zero_le hy0
  rw [u32_or_nat a b (by omega) (by omega), u32_or_nat b a (by omega) (by omega), Nat.or_comm]
theorem or_u32 (i : Nat) {x y : Int} (hx0 : 0 ≤ x) (hx1 : x < 4294967296) (hx : x % 2 ^ i = 0) (hy0 : 0 ≤ y) (hy1 : y < 2 ^ i) (hy2 : y < 4294967296) : bits .or .u32 x y = x + y := by
  obtain ⟨a, rfl⟩ := Int.eq_ofNat_of_zero_le hx0
  obtain ⟨b, rfl⟩ := Int.eq_ofNat_of_zero_le hy0
  rw [u32_or_nat a b (by omega) (by omega)]
  have hb : b < 2 ^ i := by exact_mod_cast hy1
  have ha : a % 2 ^ i = 0 := by exact_mod_cast hx
  have e : a = 2 ^ i * (a / 2 ^ i) := by have := Nat.mod_add_div a (2 ^ i); omega
  have := Nat.two_pow_add_eq_or_of_lt hb (a / 2 ^ i)
  rw [← e] at this
  rw [← this]
  simp

set_option maxRecDepth 100000 in
set_option maxHeartbeats 1600000 in
theorem nat_short (A : Option Addr) (n c N : Nat) (d : Int) (w : World) (h : RN w A n c N) (hd0 : 0 < d) (hd1 : d < 4294967296) (hs : n ≤ 35184372088832) :
    Calls Try.prog 177 #[.slice A n c, .int .u32 d] w fun e w' => ∃ C m k, e = .returned (.tuple #[.slice C m k, .int .u32 ((N : Int) % d)]) ∧ CN w' C m k (N / d.toNat) ∧ Below w.heap.size w w' ∧ (∀ ad, C = some ad → w.heap.size ≤ ad.block) := by
  obtain ⟨hn, xs, hr, hl, hv⟩ := h
  have mk := print_make (P := Try.prog) 29 93 .u32 4 Try.underlying29 infoU32 (by omega) n (by omega)
  have HA := Lib.hid hr
  have HX := Lib.hid hl
  have HL := Lib.hid (show xs.length = n from hr.1)
  have HV := Lib.hid hv
  clear hr hl hv
  have hdz : (d == 0) = false := by rw [beq_eq_false_iff_ne]; omega
  go_enter Try.func177, Try.ntmps177
  go_wp2
  go_loopw [7, 8] (fun c i wr => ∃ (k : Nat) (r : Int) (zs : List Int), k ≤ n ∧ i = .int .i64 ((k : Int) - 1) ∧ c = .int .u64 r ∧ shortI d xs zs k r ∧ wr.ownsRow w.heap.size 93 1 (.slice (some ⟨w.heap.size, 0, none⟩) n n) n (nums .u32 zs) ∧ Below w.heap.size w wr) (fun _ i _ => (intOf i + 1).toNat)
  case atStart => exact ⟨n, 0, List.replicate n 0, Nat.le_refl _, rfl, rfl, by rw [← HL.out]; exact shortI_start xs hd0, own_made w _ _ _ _ (Nat.le_refl _) (by omega), (Below.refl _ _).alloc (Nat.le_refl _) _⟩
  case round =>
    obtain ⟨k, r, zs, hk, rfl, rfl, hR, hO, hBl⟩ := hrel
    have hbr := hR.bd
    have HR := Lib.hid hR
    have HO := Lib.hid hO
    have HBl := Lib.hid hBl
    clear hR hO hBl
    rcases Nat.eq_zero_or_pos k with h0 | h0
    · subst h0
      have he := shortI_end HR.out hd0
      have HE := Lib.hid he
      clear he
      obtain ⟨A', c', he, hr⟩ := own_reads HO.out
      cases he
      go_wp2_with fail
      with_reducible refine (cut_ok (Nat.le_refl _) hr HR.out.lim (N := N / d.toNat) (by rw [HE.out.1, HV.out, Int.natCast_ediv, Int.toNat_of_nonneg (by omega)])).mono ?_
      rintro e w' ⟨m, rfl, rfl, hC⟩
      go_wp2
      go_ret2
      exact ⟨_, _, _, congrArg (fun r => Ending.returned (.tuple #[.slice (some ⟨w.heap.size, 0, none⟩) m n, .int .u32 r])) (by rw [← HV.out]; exact HE.out.2), hC, HBl.out, fun ad e => by cases e; exact Nat.le_refl _⟩
    · obtain ⟨j, rfl⟩ : ∃ j, k = j + 1 := ⟨k - 1, by omega⟩
      have e1 : ((j + 1 : Nat) : Int) - 1 = j := by omega
      rw [e1]
      clear e1
      obtain ⟨ad, rfl, hx⟩ := HA.out.at_ j (by omega) (by omega)
      simp only [Int.toNat_natCast, rd_at] at hx
      replace hx := pw_cell_below HBl.out hx
      have bx := HX.out.at_ j
      obtain ⟨ho1, ho2⟩ := own_at HO.out j (by omega) (by omega)
      simp only [Int.toNat_natCast, rd_at] at ho1 ho2
      have hst := fun v => own_store HO.out (j : Int) v
      simp only [Int.toNat_natCast] at hst
      have HST := Lib.hid hst
      clear hst
      have hor := or_u64 32 (x := r * 4294967296) (y := at_ xs j) (by omega) (by omega) (by omega) bx.1 (by omega) (by omega)
      have hq := shortI_bound hbr.1 hbr.2 bx.1 bx.2
      have e1 : IntKind.u64.wrap ((r * 4294967296 + at_ xs j).tdiv d) % 4294967296 = (r * 4294967296 + at_ xs j) / d := by
        rw [Int.tdiv_eq_ediv_of_nonneg (by omega), IntKind.wrap_u64]; omega
      have e2 : (r * 4294967296 + at_ xs j).tmod d = (r * 4294967296 + at_ xs j) % d := Int.tmod_eq_emod_of_nonneg (by omega)
      go_wp2
      go_roundw
      case rel => exact ⟨j, _, _, by omega, by go_num, rfl, shortI_step HR.out (by rw [HL.out]; omega) HX.out _ rfl, (HST.out _).1, HBl.out.setCell (Nat.le_refl _) _⟩
      case measure => simp [intOf]

theorem below_drewN_right {w w1 : World} {q : Nat} (h : Below (w.drewN q).heap.size (w.drewN q) w1) : Below w.heap.size w w1 := (pw_below_drewN (Below.refl _ w) q).trans h

set_option maxRecDepth 100000 in
set_option maxHeartbeats 800000 in
theorem nat_Sub (A B : Option Addr) (na nb ca cb M N : Nat) (w : World) (ha : RN w A na ca M) (hb : RN w B nb cb N) (hle : N ≤ M) (hs : lim M ≤ 35184372088832) :
    Calls Try.prog 152 #[.slice A na ca, .slice B nb cb] w fun e w' => ∃ C n c, e = .returned (.tuple #[.slice C n c, .int .i64 0]) ∧ CN w' C n c (M - N) ∧ Below w.heap.size w w' := by
  have hsg : 0 ≤ sgnc (M : Int) N := by unfold sgnc; split <;> (try split) <;> omega
  go_enter Try.func152, Try.ntmps152
  go_wp2_with fail
  with_reducible refine (nat_Cmp _ _ _ _ _ _ _ _ _ ha hb).mono ?_
  rintro e w' ⟨rfl, q, rfl⟩
  have ha := ha.below (pw_below_drewN (Below.refl _ w) q)
  have hb := hb.below (pw_below_drewN (Below.refl _ w) q)
  go_wp2_with fail
  with_reducible refine (trim_rn ha).mono ?_
  rintro e w' ⟨ma, rfl, rfl, ca'⟩
  go_wp2_with fail
  with_reducible refine (trim_rn hb).mono ?_
  rintro e w' ⟨mb, rfl, rfl, cb'⟩
  go_wp2_with fail
  have la := ca'.len
  have lb := cb'.len
  have hl := lim_mono hle
  have ra := ca'.2
  have rb := cb'.2
  with_reducible refine (less_any _ _ _ _ _ _ _ _ _ ra rb (by omega) (dig_lim M) (dig_lim N) (by rw [dig_val, dig_val]; omega) (M - N) (by rw [dig_val, dig_val]; omega) (by omega)).mono ?_
  rintro e w' ⟨C, n, c, rfl, hC, hB⟩
  clear la lb ra rb
  go_wp2
  go_ret2
  exact ⟨_, _, _, rfl, hC, below_drewN_right hB⟩
end Go.Proofs.Ytaagioghkicdkaa
