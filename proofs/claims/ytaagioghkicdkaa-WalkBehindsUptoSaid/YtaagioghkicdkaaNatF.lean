/- Contracts of package nat: shifts. -/
import Derived.Test.YtaagioghkicdkaaNatE
set_option linter.unusedVariables false
set_option linter.unusedSimpArgs false
namespace Go.Proofs.Ytaagioghkicdkaa
open Go.RowKit Go.Proofs.YtaagioghkicdkaaW.PrintWords Mt

theorem trim_cn {w : World} {A : Option Addr} {n c N : Nat} (h : CN w A n c N) :
    Calls Try.prog 136 #[.slice A n c] w fun e w' => e = .returned (.slice A n c) ∧ w = w' :=
  (trim_any A n c (dig N) w h.1 h.2).mono fun _ _ ⟨he, hw⟩ => ⟨by rw [he, h.len, show tl (dig N) (lim N) = lim N from tl_of_can (dig_can N)], hw.symm⟩

theorem own_cut {w : World} {base n c m N : Nat} {A : Option Addr} {xs : List Int} (h : w.ownsRow base 93 1 (.slice A n c) n (nums .u32 xs)) (hl : Lim xs) (hv : val xs = N) (hC : CN w A m c N) : w.ownsRow base 93 1 (.slice A m c) m (nums .u32 (dig N)) := by
  have hlen : xs.length = n := by have := h.1; simp [nums] at this; exact this
  have hm : m = tl xs n := by
    rw [hC.len]
    have e : xs.take (tl xs n) = dig N := dig_of (hl.take _) (tl_can (by omega)) (by rw [tl_val (by omega), ← hlen, List.take_length]; exact hv)
    show (dig N).length = _
    rw [← e, List.length_take]
    have := tl_le xs n
    omega
  have e : xs.take m = dig N := by rw [hm]; exact dig_of (hl.take _) (tl_can (by omega)) (by rw [tl_val (by omega), ← hlen, List.take_length]; exact hv)
  have := own_take h (m := m) (by rw [hm]; exact tl_le xs n)
  rw [Nat.mul_one] at this
  rw [← e]
  simpa [nums, List.map_take] using this

set_option maxRecDepth 100000 in
set_option maxHeartbeats 1600000 in
theorem nat_shl (A : Option Addr) (na ca N n : Nat) (w : World) (ha : RN w A na ca N) (hs : na ≤ 17592186044416) (hn : n ≤ 17592186044416) :
    Calls Try.prog 179 #[.slice A na ca, .int .i64 n] w fun e w' => ∃ C m c, e = .returned (.slice C m c) ∧ CN w' C m c (N * 2 ^ n) ∧ Below w.heap.size w w' ∧ w'.ownsRow w.heap.size 93 1 (.slice C m c) m (nums .u32 (dig (N * 2 ^ n))) := by
  obtain ⟨q, r, hr, hn2⟩ : ∃ q r, r < 32 ∧ n = 32 * q + r := ⟨n / 32, n % 32, by omega, by omega⟩
  have hq : (n : Int) / 32 = q := by omega
  have hr2 : (n : Int) % 32 = r := by omega
  have HN := Lib.hid hn2
  clear hn2
  go_enter Try.func179, Try.ntmps179
  go_wp2_with fail
  with_reducible refine (trim_rn ha).mono ?_
  rintro e w' ⟨ma, rfl, rfl, ca'⟩
  rename_i w
  have hm : ma ≤ na := by obtain ⟨_, xs, h1, h2, h3⟩ := ha; rw [ca'.len]; exact lim_le (by rw [← h3, ← h1.1]; exact val_lt h2)
  have mk := print_make (P := Try.prog) 29 93 .u32 4 Try.underlying29 infoU32 (by omega) (ma + q + 1) (by omega)
  simp only [Int.natCast_add, Int.cast_ofNat_Int] at mk
  have HA := Lib.hid ca'.2
  have HL := Lib.hid ca'.len
  clear ha ca'
  have HLA := Lib.hid (show (dig N).length = ma from HL.out.symm)
  rcases Nat.eq_zero_or_pos ma with h0 | h0
  · subst h0
    have hv : N = 0 := by
      have := dig_val N
      rw [List.eq_nil_of_length_eq_zero HLA.out] at this
      simp [val] at this; omega
    subst hv
    clear mk
    go_wp2
    go_ret
    exact ⟨none, 0, 0, rfl, ⟨Nat.le_refl _, by rw [Nat.zero_mul, dig_zero]; exact ReadsInt.none⟩, Below.refl _ _, by rw [Nat.zero_mul, dig_zero]; exact own_nil _ _ _ _⟩
  · have hne : ((ma : Int) == 0) = false := by rw [beq_eq_false_iff_ne]; omega
    have hP := pow2_pos r
    go_wp2
    go_loopw [28] (fun i wr => ∃ (k : Nat) (zs : List Int), k ≤ ma ∧ i = .int .i64 k ∧ shlI (dig N) zs (ma + q + 1) q (2 ^ r) k ∧ wr.ownsRow w.heap.size 93 1 (.slice (some ⟨w.heap.size, 0, none⟩) (ma + q + 1) (ma + q + 1)) (ma + q + 1) (nums .u32 zs) ∧ Below w.heap.size w wr) (fun i _ => ma - (intOf i).toNat)
    case atStart => exact ⟨0, List.replicate (ma + q + 1) 0, Nat.zero_le _, rfl, shlI_start _ _ _ hP, own_made w _ _ _ _ (Nat.le_refl _) (by omega), (Below.refl _ _).alloc (Nat.le_refl _) _⟩
    case round =>
      obtain ⟨k, zs, hk, rfl, hR, hO, hBl⟩ := hrel
      have HR := Lib.hid hR
      have HO := Lib.hid hO
      have HBl := Lib.hid hBl
      clear hR hO hBl
      by_cases hlt : k < ma
      · obtain ⟨ad, rfl, hx⟩ := HA.out.at_ k (by omega) (by omega)
        simp only [Int.toNat_natCast, rd_at] at hx
        replace hx := pw_cell_below HBl.out hx
        have bx := (dig_lim N).at_ k
        obtain ⟨l1, l2, l3, l4, l5⟩ := shl_limb hr bx.1 bx.2
        have hw := IntWalk.u64_in (at_ (dig N) k * 2 ^ r) (by omega)
        have bt := HR.out.top
        have hP2 := pow2_le hr
        have hmod : at_ (dig N) k * 2 ^ r / 4294967296 % 4294967296 = at_ (dig N) k * 2 ^ r / 4294967296 := by omega
        have hor : bits .or .u32 (at_ zs (k + q)) (at_ (dig N) k * 2 ^ r % 4294967296) = at_ zs (k + q) + at_ (dig N) k * 2 ^ r % 4294967296 := by
          rw [or_u32_swap bt.1 (by omega) (by omega) (by omega), Int.add_comm]
          exact or_u32 r (by omega) (by omega) l3 bt.1 bt.2 (by omega)
        have L := Lib.hid (And.intro l1 (And.intro l2 (And.intro l3 (And.intro l4 l5))))
        clear l1 l2 l3 l4 l5
        obtain ⟨ho1, ho2⟩ := own_at HO.out ((k + q : Nat) : Int) (by omega) (by omega)
        have hst := (own_store HO.out ((k + q : Nat) : Int) (at_ zs (k + q) + at_ (dig N) k * 2 ^ r % 4294967296)).1
        obtain ⟨hp1, hp2⟩ := own_at hst ((k + q + 1 : Nat) : Int) (by omega) (by omega)
        have hst2 := (own_store hst ((k + q + 1 : Nat) : Int) (at_ (dig N) k * 2 ^ r / 4294967296)).1
        simp only [Int.toNat_natCast, rd_at] at ho1 ho2 hst hp1 hp2 hst2
        have HST := Lib.hid hst2
        clear hst hst2
        go_wp2
        go_roundw
        case rel => exact ⟨k + 1, _, by omega, by go_num, shlI_step HR.out hr (by rw [HLA.out]; exact hlt) (by omega) (dig_lim N), HST.out, (HBl.out.setCell (Nat.le_refl _) _).setCell (Nat.le_refl _) _⟩
        case measure => simp [intOf]; omega
      · obtain rfl : k = ma := by omega
        have he := shlI_end (by rw [HLA.out]; exact HR.out)
        rw [dig_val, B_pow] at he
        have HE := Lib.hid he
        clear he
        go_wp2_with fail
        obtain ⟨A', c', he, hr⟩ := own_reads HO.out
        cases he
        with_reducible refine (cut_ok (Nat.le_refl _) hr HR.out.lim (N := N * 2 ^ n) (by rw [HE.out, HN.out])).mono ?_
        rintro e w' ⟨m, rfl, rfl, hC⟩
        have HOC := Lib.hid (own_cut HO.out HR.out.lim (N := N * 2 ^ n) (by rw [HE.out, HN.out]) hC)
        go_wp2
        go_ret
        exact ⟨_, _, _, rfl, hC, HBl.out, HOC.out⟩

set_option maxRecDepth 100000 in
set_option maxHeartbeats 1600000 in
theorem nat_shr (A : Option Addr) (na ca N n : Nat) (w : World) (ha : RN w A na ca N) (hs : na ≤ 17592186044416) (hn : n ≤ 562949953421312) :
    Calls Try.prog 181 #[.slice A na ca, .int .i64 n] w fun e w' => ∃ C m c, e = .returned (.slice C m c) ∧ CN w' C m c (N / 2 ^ n) ∧ Below w.heap.size w w' ∧ (∀ ad, C = some ad → w.heap.size ≤ ad.block) := by
  obtain ⟨q, r, hr, hn2⟩ : ∃ q r, r < 32 ∧ n = 32 * q + r := ⟨n / 32, n % 32, by omega, by omega⟩
  have hq : (n : Int) / 32 = q := by omega
  have hr2 : (n : Int) % 32 = r := by omega
  have HN := Lib.hid hn2
  clear hn2
  go_enter Try.func181, Try.ntmps181
  go_wp2_with fail
  with_reducible refine (trim_rn ha).mono ?_
  rintro e w' ⟨ma, rfl, rfl, ca'⟩
  rename_i w
  have hm : ma ≤ na := by obtain ⟨_, xs, h1, h2, h3⟩ := ha; rw [ca'.len]; exact lim_le (by rw [← h3, ← h1.1]; exact val_lt h2)
  have HA := Lib.hid ca'.2
  have HL := Lib.hid ca'.len
  clear ha ca'
  have HLA := Lib.hid (show (dig N).length = ma from HL.out.symm)
  by_cases h0 : ma ≤ q
  · have hv := shr_zero (N := N) (q := q) (r := r) (by rw [← HL.out]; exact h0)
    have HV := Lib.hid hv
    clear hv
    go_wp2
    go_ret
    exact ⟨none, 0, 0, rfl, ⟨Nat.le_refl _, by rw [HN.out, HV.out, dig_zero]; exact ReadsInt.none⟩, Below.refl _ _, fun ad e => by cases e⟩
  · obtain ⟨m, rfl⟩ : ∃ m, ma = m + q := ⟨ma - q, by omega⟩
    have mk := print_make (P := Try.prog) 29 93 .u32 4 Try.underlying29 infoU32 (by omega) m (by omega)
    go_wp2
    go_loopw [28] (fun i wr => ∃ (k : Nat) (zs : List Int), k ≤ m ∧ i = .int .i64 k ∧ shrI (dig N) zs m q r k ∧ wr.ownsRow w.heap.size 93 1 (.slice (some ⟨w.heap.size, 0, none⟩) m m) m (nums .u32 zs) ∧ Below w.heap.size w wr) (fun i _ => m - (intOf i).toNat)
    case atStart => exact ⟨0, List.replicate m 0, Nat.zero_le _, rfl, shrI_start _ _ _ _, own_made w _ _ _ _ (Nat.le_refl _) (by omega), (Below.refl _ _).alloc (Nat.le_refl _) _⟩
    case round =>
      obtain ⟨k, zs, hk, rfl, hR, hO, hBl⟩ := hrel
      have HR := Lib.hid hR
      have HO := Lib.hid hO
      have HBl := Lib.hid hBl
      clear hR hO hBl
      by_cases hlt : k < m
      · obtain ⟨ad, rfl, hx⟩ := HA.out.at_ ((k + q : Nat) : Int) (by omega) (by omega)
        simp only [Int.toNat_natCast, rd_at] at hx
        replace hx := pw_cell_below HBl.out hx
        have bx := (dig_lim N).at_ (k + q)
        have by_ := (dig_lim N).at_ (k + q + 1)
        obtain ⟨ho1, ho2⟩ := own_at HO.out ((k : Nat) : Int) (by omega) (by omega)
        by_cases hlt2 : k + q + 1 < m + q
        · obtain ⟨ad2, e2, hy⟩ := HA.out.at_ ((k + q + 1 : Nat) : Int) (by omega) (by omega)
          cases e2
          simp only [Int.toNat_natCast, rd_at] at hy
          replace hy := pw_cell_below HBl.out hy
          rw [add_succ] at hy
          have hor : bits .or .u64 (at_ (dig N) (k + q)) (at_ (dig N) (k + q + 1) * 4294967296) = at_ (dig N) (k + q) + at_ (dig N) (k + q + 1) * 4294967296 := by
            rw [or_u64_swap bx.1 (by omega) (by omega) (by omega), Int.add_comm]
            exact or_u64 32 (by omega) (by omega) (by omega) bx.1 (by omega) (by omega)
          have hst := (own_store HO.out ((k : Nat) : Int) ((at_ (dig N) (k + q) + at_ (dig N) (k + q + 1) * 4294967296) / 2 ^ r % 4294967296)).1
          simp only [Int.toNat_natCast, rd_at] at ho1 ho2 hst
          have HST := Lib.hid hst
          clear hst
          go_wp2
          go_roundw
          case rel => exact ⟨k + 1, _, by omega, by go_num, shrI_step HR.out hr (by rw [HLA.out]; omega) hlt (dig_lim N), HST.out, HBl.out.setCell (Nat.le_refl _) _⟩
          case measure => simp [intOf]; omega
        · have hst := (own_store HO.out ((k : Nat) : Int) ((at_ (dig N) (k + q) + at_ (dig N) (k + q + 1) * 4294967296) / 2 ^ r % 4294967296)).1
          rw [at_ge (xs := dig N) (k := k + q + 1) (by rw [HLA.out]; omega), Int.zero_mul, Int.add_zero] at hst
          simp only [Int.toNat_natCast, rd_at] at ho1 ho2 hst
          have HST := Lib.hid hst
          clear hst
          go_wp2
          go_roundw
          case rel =>
            have hs := shrI_step HR.out hr (by rw [HLA.out]; omega) hlt (dig_lim N)
            rw [at_ge (xs := dig N) (k := k + q + 1) (by rw [HLA.out]; omega), Int.zero_mul, Int.add_zero] at hs
            exact ⟨k + 1, _, by omega, by go_num, hs, HST.out, HBl.out.setCell (Nat.le_refl _) _⟩
          case measure => simp [intOf]; omega
      · obtain rfl : k = m := by omega
        have he := shrI_end HR.out HLA.out (dig_lim N)
        rw [dig_val] at he
        have HE := Lib.hid he
        clear he
        go_wp2_with fail
        obtain ⟨A', c', he, hr⟩ := own_reads HO.out
        cases he
        with_reducible refine (cut_ok (Nat.le_refl _) hr HR.out.lim (N := N / 2 ^ n) (by rw [HE.out, HN.out]; simp)).mono ?_
        rintro e w' ⟨m, rfl, rfl, hC⟩
        go_wp2
        go_ret
        exact ⟨_, _, _, rfl, hC, HBl.out, fun ad e => by cases e; exact Nat.le_refl _⟩
end Go.Proofs.Ytaagioghkicdkaa
