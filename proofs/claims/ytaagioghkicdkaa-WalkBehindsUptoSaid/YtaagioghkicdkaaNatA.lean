/- Contracts of package nat: what is cut, compared, counted. -/
import Derived.Test.YtaagioghkicdkaaBase
set_option linter.unusedVariables false
set_option linter.unusedSimpArgs false
namespace Go.Proofs.Ytaagioghkicdkaa
open Go.RowKit Go.Proofs.YtaagioghkicdkaaW.PrintWords Mt

set_option maxRecDepth 100000 in
set_option maxHeartbeats 400000 in
theorem trim_any (A : Option Addr) (n c : Nat) (xs : List Int) (w : World) (hn : n ≤ c) (h : ReadsInt w .u32 A n xs) :
    Calls Try.prog 136 #[.slice A n c] w fun e w' => e = .returned (.slice A (tl xs n) c) ∧ w' = w := by
  have hbig := h.2.1
  have H := Lib.hid h
  clear h
  go_enter Try.func136, Try.ntmps136
  go_wp2
  go_loop [0] (fun v => ∃ k : Nat, k ≤ n ∧ v = .slice A k c ∧ tl xs k = tl xs n) (fun v => match v with | .slice _ k _ => k | _ => 0)
  case atStart => exact ⟨n, Nat.le_refl _, rfl, rfl⟩
  case round =>
    obtain ⟨k, hk, rfl, ht⟩ := hrel
    have HT := Lib.hid ht
    clear ht
    rcases Nat.eq_zero_or_pos k with h0 | h0
    · subst h0
      go_wp2
      go_ret
      exact ⟨by rw [← HT.out]; rfl, rfl⟩
    · obtain ⟨m, rfl⟩ : ∃ m, k = m + 1 := ⟨k - 1, by omega⟩
      obtain ⟨ad, rfl, hx⟩ := H.out.at_ m (by omega) (by omega)
      simp only [Int.toNat_natCast, rd_at] at hx
      by_cases hz : at_ xs m = 0
      · have hz' : (at_ xs m == 0) = true := by simpa using hz
        have HZ := Lib.hid hz
        clear hz
        go_wp2
        go_round
        case rel => exact ⟨m, by omega, by go_num, by rw [← HT.out, tl, if_pos HZ.out]⟩
        case measure => simp
      · have hz' : (at_ xs m == 0) = false := by simpa using hz
        go_wp2
        go_ret
        exact ⟨congrArg (fun k => Ending.returned (.slice (some ad) k c)) (by rw [← HT.out, tl, if_neg (by simpa using hz')]), rfl⟩

/-- Limbs written one by one. -/
theorem cut_ok {w : World} {A : Option Addr} {n c N : Nat} {xs : List Int} (hn : n ≤ c) (h : ReadsInt w .u32 A n xs) (hl : Lim xs) (hv : val xs = N) :
    Calls Try.prog 136 #[.slice A n c] w fun e w' => ∃ m, e = .returned (.slice A m c) ∧ w = w' ∧ CN w A m c N :=
  (trim_any A n c xs w hn h).mono fun _ _ ⟨he, hw⟩ => ⟨_, he, hw.symm, CN.mk hn h hl hv⟩

def lessI (xs ys zs : List Int) (k : Nat) (b : Int) : Prop := 0 ≤ b ∧ b ≤ 1 ∧ zs.length = xs.length ∧ Lim zs ∧ val (zs.take k) - B k * b = val (xs.take k) - val (ys.take k)

theorem lessI.lim {xs ys zs : List Int} {k : Nat} {b : Int} (h : lessI xs ys zs k b) : Lim zs := h.2.2.2.1
theorem lessI_start (xs ys : List Int) : lessI xs ys (List.replicate xs.length 0) 0 0 := ⟨by omega, by omega, by simp, Lim.noughts _, by simp [val]⟩
theorem lessI_step {xs ys zs : List Int} {k : Nat} {b y : Int} (h : lessI xs ys zs k b) (hk : k < xs.length) (hx : Lim xs) (hy0 : 0 ≤ y) (hy1 : y < 4294967296)
    (hy : val (ys.take (k + 1)) = val (ys.take k) + B k * y) (v : Int) (hv : v = (at_ xs k - b - y) % 18446744073709551616) :
    lessI xs ys (zs.set k (v % 4294967296)) (k + 1) (v / 9223372036854775808) := by
  obtain ⟨h0, h1, h2, h3, h4⟩ := h
  have hx1 := hx.at_ k
  have e : v % 4294967296 - 4294967296 * (v / 9223372036854775808) = at_ xs k - b - y := by omega
  refine ⟨by omega, by omega, by simpa using h2, h3.set _ (by omega) (by omega), ?_⟩
  rw [take_set _ (by omega), val_snoc, len_take (by omega), val_take_succ hk, hy, B_succ]
  have e2 := congrArg (fun t => B k * t) e
  simp only [Int.mul_sub] at e2
  have e3 : 4294967296 * B k * (v / 9223372036854775808) = B k * (4294967296 * (v / 9223372036854775808)) := by rw [Int.mul_comm 4294967296, Int.mul_assoc]
  omega
theorem lessI_end {xs ys zs : List Int} {b : Int} (h : lessI xs ys zs xs.length b) (hx : Lim xs) (hy : Lim ys) (hl : ys.length ≤ xs.length) (hle : val ys ≤ val xs) : val zs = val xs - val ys := by
  obtain ⟨h0, h1, h2, h3, h4⟩ := h
  rw [← h2, List.take_length, h2, List.take_length, List.take_of_length_le hl] at h4
  have h5 := val_lt h3
  rw [h2] at h5
  have h6 := val_nonneg h3
  have h7 : b = 0 ∨ b = 1 := by omega
  rcases h7 with rfl | rfl
  · omega
  · omega

set_option maxRecDepth 100000 in
set_option maxHeartbeats 800000 in
theorem less_any (A B : Option Addr) (na nb ca cb : Nat) (xs ys : List Int) (w : World) (ha : ReadsInt w .u32 A na xs) (hb : ReadsInt w .u32 B nb ys) (hl : nb ≤ na) (hx : Lim xs) (hy : Lim ys) (hle : val ys ≤ val xs) (N : Nat) (hN : (N : Int) = val xs - val ys) (hs : na ≤ 70368744177664) :
    Calls Try.prog 170 #[.slice A na ca, .slice B nb cb] w fun e w' => ∃ C n c, e = .returned (.slice C n c) ∧ CN w' C n c N ∧ Below w.heap.size w w' := by
  have mk := print_make (P := Try.prog) 29 93 .u32 4 Try.underlying29 infoU32 (by omega) na (by omega)
  have HA := Lib.hid ha
  have HB := Lib.hid hb
  have HN := Lib.hid hN
  have HX := Lib.hid hx
  have HY := Lib.hid hy
  have HL := Lib.hid (show xs.length = na from ha.1)
  have HL2 := Lib.hid (show ys.length = nb from hb.1)
  have HLE := Lib.hid hle
  clear ha hb hN hx hy hle
  go_enter Try.func170, Try.ntmps170
  go_wp2
  go_loopw [6, 7, 8, 14] (fun c _ _ i wr => ∃ (k : Nat) (bw : Int) (zs : List Int), k ≤ na ∧ i = .int .i64 k ∧ c = .int .u64 bw ∧ lessI xs ys zs k bw ∧ wr.ownsRow w.heap.size 93 1 (.slice (some ⟨w.heap.size, 0, none⟩) na na) na (nums .u32 zs) ∧ Below w.heap.size w wr) (fun _ _ _ i _ => na - (intOf i).toNat)
  case atStart => exact ⟨0, 0, List.replicate na 0, Nat.zero_le _, rfl, rfl, by rw [← HL.out]; exact lessI_start xs ys, own_made w _ _ _ _ (Nat.le_refl _) (by omega), (Below.refl _ _).alloc (Nat.le_refl _) _⟩
  case round =>
    obtain ⟨k, bw, zs, hk, rfl, rfl, hR, hO, hBl⟩ := hrel
    have HR := Lib.hid hR
    have HO := Lib.hid hO
    have HBl := Lib.hid hBl
    clear hR hO hBl
    by_cases hlt : k < na
    · obtain ⟨ad, rfl, hx⟩ := HA.out.at_ k (by omega) (by omega)
      replace hx := pw_cell_below HBl.out hx
      obtain ⟨ho1, ho2⟩ := own_at HO.out k (by omega) (by omega)
      simp only [Int.toNat_natCast, rd_at] at hx ho1 ho2
      have hst := fun v => own_store HO.out (k : Int) v
      simp only [Int.toNat_natCast] at hst
      have HST := Lib.hid hst
      clear hst
      by_cases hlt2 : k < nb
      · obtain ⟨bd, rfl, hy⟩ := HB.out.at_ k (by omega) (by omega)
        simp only [Int.toNat_natCast, rd_at] at hy
        replace hy := pw_cell_below HBl.out hy
        go_wp2
        go_roundw
        case rel =>
          refine ⟨k + 1, _, _, by omega, by go_num, rfl, lessI_step HR.out (by rw [HL.out]; exact hlt) HX.out (HY.out.at_ k).1 (HY.out.at_ k).2 (val_take_succ (by rw [HL2.out]; exact hlt2)) _ ?_, (HST.out _).1, HBl.out.setCell (Nat.le_refl _) _⟩
          rw [IntKind.wrap_u64, IntKind.wrap_u64, IntKind.wrap_u64, IntKind.wrap_u64]
          omega
        case measure => simp [intOf]; omega
      · go_wp2
        go_roundw
        case rel =>
          refine ⟨k + 1, _, _, by omega, by go_num, rfl, lessI_step (y := 0) HR.out (by rw [HL.out]; exact hlt) HX.out (by omega) (by omega) (by rw [List.take_of_length_le (by rw [HL2.out]; omega), List.take_of_length_le (by rw [HL2.out]; omega)]; omega) _ ?_, (HST.out _).1, HBl.out.setCell (Nat.le_refl _) _⟩
          rw [IntKind.wrap_u64, IntKind.wrap_u64]
          omega
        case measure => simp [intOf]; omega
    · obtain rfl : k = na := by omega
      obtain ⟨A', c', he, hr⟩ := own_reads HO.out
      have hv := lessI_end (by rw [HL.out]; exact HR.out) HX.out HY.out (by rw [HL.out, HL2.out]; exact hl) HLE.out
      rw [← HN.out] at hv
      have HV := Lib.hid hv
      clear hv
      cases he
      go_wp2_with fail
      with_reducible refine (cut_ok (Nat.le_refl _) hr HR.out.lim HV.out).mono ?_
      rintro e w' ⟨m, rfl, rfl, hC⟩
      go_wp2
      go_ret
      exact ⟨_, _, _, rfl, hC, HBl.out⟩
end Go.Proofs.Ytaagioghkicdkaa
