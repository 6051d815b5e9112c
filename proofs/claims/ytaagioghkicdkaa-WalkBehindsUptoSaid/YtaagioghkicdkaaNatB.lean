/- Contracts of package nat: compared, counted, copied, added. -/
import Derived.Test.YtaagioghkicdkaaNatA
import Derived.Test.YtaagioghkicdkaaShelf
import Derived.Lib.ItoaNum
set_option linter.unusedVariables false
set_option linter.unusedSimpArgs false
namespace Go.Proofs.Ytaagioghkicdkaa
open Go.RowKit Go.Proofs.YtaagioghkicdkaaW.PrintWords Mt

theorem trim_rn {w : World} {A : Option Addr} {n c N : Nat} (h : RN w A n c N) :
    Calls Try.prog 136 #[.slice A n c] w fun e w' => ∃ m, e = .returned (.slice A m c) ∧ w = w' ∧ CN w A m c N := by
  obtain ⟨h0, xs, h1, h2, h3⟩ := h
  exact cut_ok h0 h1 h2 h3

set_option maxRecDepth 100000 in
set_option maxHeartbeats 800000 in
theorem nat_Cmp (A B : Option Addr) (na nb ca cb M N : Nat) (w : World) (ha : RN w A na ca M) (hb : RN w B nb cb N) :
    Calls Try.prog 151 #[.slice A na ca, .slice B nb cb] w fun e w' => e = .returned (.int .i64 (sgnc M N)) ∧ ∃ q, w' = w.drewN q := by
  go_enter Try.func151, Try.ntmps151
  go_wp2_with fail
  with_reducible refine (trim_rn ha).mono ?_
  rintro e w' ⟨ma, rfl, rfl, ca'⟩
  go_wp2_with fail
  with_reducible refine (trim_rn hb).mono ?_
  rintro e w' ⟨mb, rfl, rfl, cb'⟩
  have HA := Lib.hid ca'.2
  have HB := Lib.hid cb'.2
  have la : ma = lim M := ca'.len
  have lb : mb = lim N := cb'.len
  have bga : ma ≤ 9223372036854775807 := ca'.2.2.1
  have LA := Lib.hid la
  have LB := Lib.hid lb
  clear ha hb ca' cb' la lb
  by_cases hne : ma = mb
  · subst hne
    go_wp2
    go_loopw [5] (fun i wr => ∃ k : Nat, k ≤ ma ∧ i = .int .i64 ((k : Int) - 1) ∧ (dig M).drop k = (dig N).drop k ∧ ∃ q, wr = w.drewN q) (fun i _ => (intOf i + 1).toNat)
    case atStart => exact ⟨ma, Nat.le_refl _, rfl, by rw [List.drop_of_length_le (by rw [LA.out]; exact Nat.le_refl _), List.drop_of_length_le (by rw [LB.out]; exact Nat.le_refl _)], 0, rfl⟩
    case round =>
      obtain ⟨k, hk, rfl, hd, q, rfl⟩ := hrel
      have HD := Lib.hid hd
      clear hd
      rcases Nat.eq_zero_or_pos k with h0 | h0
      · subst h0
        have hv : sgnc (M : Int) N = 0 := by
          have := HD.out
          rw [List.drop_zero, List.drop_zero] at this
          exact sgnc_eq (by rw [← dig_val M, ← dig_val N, this])
        have HV := Lib.hid hv
        clear hv
        go_wp2
        go_ret
        exact ⟨by rw [HV.out]; rfl, by first | exact ⟨_, rfl⟩ | (simp only [World.drewN_drewN]; exact ⟨_, rfl⟩)⟩
      · obtain ⟨j, rfl⟩ : ∃ j, k = j + 1 := ⟨k - 1, by omega⟩
        obtain ⟨ad, rfl, hx⟩ := HA.out.at_ j (by omega) (by omega)
        obtain ⟨bd, rfl, hy⟩ := HB.out.at_ j (by omega) (by omega)
        simp only [Int.toNat_natCast, rd_at] at hx hy
        have e1 : ((j + 1 : Nat) : Int) - 1 = j := by omega
        rw [e1]
        clear e1
        have p1 : 0 ≤ (j : Int) := by omega
        have p2 : (j : Int) < (ma : Int) := by omega
        by_cases he : at_ (dig M) j = at_ (dig N) j
        · have hb : (at_ (dig M) j != at_ (dig N) j) = false := by simpa using he
          have HE := Lib.hid he
          clear he
          go_wp2
          go_quiet (fail)
          go_wp2
          go_roundw
          case rel => exact ⟨j, by omega, by go_num, dig_drop (by rw [← LA.out, ← LB.out]) (by rw [← LA.out]; omega) HD.out HE.out, by first | exact ⟨_, rfl⟩ | (simp only [World.drewN_drewN]; exact ⟨_, rfl⟩)⟩
          case measure => simp [intOf]
        · have hb : (at_ (dig M) j != at_ (dig N) j) = true := by simpa using he
          by_cases hlt : at_ (dig M) j < at_ (dig N) j
          · have hv := dig_cmp_lt (by rw [← LA.out, ← LB.out]) (by rw [← LA.out]; omega) HD.out hlt
            have HV := Lib.hid (sgnc_lt (x := M) (y := N) (by omega))
            clear hv
            go_wp2
            go_quiet (fail)
            go_wp2
            go_quiet (fail)
            go_wp2
            go_ret
            exact ⟨by rw [HV.out]; rfl, by first | exact ⟨_, rfl⟩ | (simp only [World.drewN_drewN]; exact ⟨_, rfl⟩)⟩
          · have hv := dig_cmp_lt (m := N) (n := M) (j := j) (by rw [← LA.out, ← LB.out]) (by rw [← LB.out]; omega) HD.out.symm (by omega)
            have HV := Lib.hid (sgnc_gt (x := M) (y := N) (by omega))
            clear hv
            go_wp2
            go_quiet (fail)
            go_wp2
            go_quiet (fail)
            go_wp2
            go_ret
            exact ⟨by rw [HV.out]; rfl, by first | exact ⟨_, rfl⟩ | (simp only [World.drewN_drewN]; exact ⟨_, rfl⟩)⟩
  · by_cases hlt : ma < mb
    · have HV := Lib.hid (sgnc_lt (x := M) (y := N) (by have := lim_lt (m := M) (n := N) (by rw [← LA.out, ← LB.out]; exact hlt); omega))
      go_wp2
      go_ret
      exact ⟨by rw [HV.out]; rfl, 0, rfl⟩
    · have HV := Lib.hid (sgnc_gt (x := M) (y := N) (by have := lim_lt (m := N) (n := M) (by rw [← LA.out, ← LB.out]; omega); omega))
      go_wp2
      go_ret
      exact ⟨by rw [HV.out]; rfl, 0, rfl⟩

theorem bitLen_nbits {x : Nat} (h : x < 4294967296) : Lib.bitLen x = nbits x := by
  by_cases h0 : x = 0
  · subst h0; rw [show Lib.bitLen 0 = 0 from Lib.bitLenAux_zero 64]; rfl
  · obtain ⟨h1, h2, h3⟩ := Lib.bitLenAux_bounds 64 x (by omega) h0
    have e : Lib.bitLen x = Lib.bitLenAux 64 x := rfl
    obtain ⟨k, hk⟩ : ∃ k, Lib.bitLenAux 64 x = k + 1 := ⟨Lib.bitLenAux 64 x - 1, by omega⟩
    rw [e, hk]
    rw [hk] at h2 h3
    rw [Nat.add_sub_cancel] at h2
    exact (nbits_eq h2 h3).symm

set_option maxRecDepth 100000 in
set_option maxHeartbeats 800000 in
theorem nat_Bits (A : Option Addr) (n c N : Nat) (w : World) (h : RN w A n c N) (hs : n ≤ 70368744177664) :
    Calls Try.prog 97 #[.slice A n c] w fun e w' => e = .returned (.int .i64 (nbits N)) ∧ w = w' := by
  go_enter Try.func97, Try.ntmps97
  go_wp2_with fail
  with_reducible refine (trim_rn h).mono ?_
  rintro e w' ⟨m, rfl, rfl, hc⟩
  have hl := hc.len
  have hm : m ≤ n := by obtain ⟨_, xs, h1, h2, h3⟩ := h; rw [hl]; exact lim_le (by rw [← h3, ← h1.1]; exact val_lt h2)
  have HC := Lib.hid hc.2
  have HL := Lib.hid hl
  clear h hc hl
  rcases Nat.eq_zero_or_pos m with h0 | h0
  · subst h0
    have hv : N = 0 := by
      have := dig_val N
      rw [List.eq_nil_of_length_eq_zero HL.out.symm] at this
      simp [val] at this; omega
    have HV := Lib.hid hv
    clear hv
    go_wp2
    go_ret
    exact ⟨by rw [HV.out]; rfl, rfl⟩
  · obtain ⟨j, rfl⟩ : ∃ j, m = j + 1 := ⟨m - 1, by omega⟩
    have hne : ((j : Int) + 1 == 0) = false := by rw [beq_eq_false_iff_ne]; omega
    obtain ⟨ad, rfl, hx⟩ := HC.out.at_ j (by omega) (by omega)
    simp only [Int.toNat_natCast, rd_at] at hx
    obtain ⟨hb, hz⟩ := nbits_top HL.out.symm
    have hlm := (dig_lim N).at_ j
    have HB := Lib.hid hb
    clear hb hz
    go_wp2_with fail
    with_reducible refine (Try.bits_Len32 _ _ hlm.1 (by omega)).mono ?_
    rintro e w' ⟨rfl, rfl⟩
    have hbl := bitLen_nbits (x := (at_ (dig N) j).toNat) (by omega)
    have hb32 : nbits (at_ (dig N) j).toNat ≤ 32 := nbits_le (by omega)
    rw [hbl]
    clear hbl
    go_wp2
    go_ret
    exact ⟨ret_int (by rw [HB.out]; omega), rfl⟩

set_option maxRecDepth 100000 in
set_option maxHeartbeats 800000 in
/-- A copy in one form. -/
theorem nat_Norm (A : Option Addr) (n c N : Nat) (w : World) (h : RN w A n c N) (hs : n ≤ 35184372088832) :
    Calls Try.prog 176 #[.slice A n c] w fun e w' => ∃ A' n' c', e = .returned (.slice A' n' c') ∧ CN w' A' n' c' N ∧ Below w.heap.size w w' ∧ w'.ownsRow w.heap.size 93 1 (.slice A' n' c') n' (nums .u32 (dig N)) := by
  go_enter Try.func176, Try.ntmps176
  go_wp2_with fail
  with_reducible refine (trim_rn h).mono ?_
  rintro e w' ⟨m, rfl, rfl, hc⟩
  have hm : m ≤ n := by obtain ⟨_, xs, h1, h2, h3⟩ := h; rw [hc.len]; exact lim_le (by rw [← h3, ← h1.1]; exact val_lt h2)
  have HC := Lib.hid hc.2
  clear h hc
  go_wp2_with (at_builtin; refine print_append_row (w0 := w) w.heap.size rfl (.const (.slice none 0 0)) (.tmp 4) 29 93 .u32 4 rfl Try.underlying29 infoU32 (by omega) (.slice none 0 0) [] (dig N) A m c rfl rfl (own_nil _ _ _ _) HC.out (Below.refl _ _) (Nat.le_refl _) (by simp only [List.length_nil]; omega) (fun v1 w1 ho hb _ _ => ?_))
  rw [List.nil_append] at ho
  obtain ⟨A', c', rfl, hr⟩ := own_reads ho
  have hcap : (dig N).length ≤ c' := by
    rcases ho.2 with ⟨h1, h2⟩ | ⟨g, cap, cur, he, _, _, h2, _⟩
    · injection h1 with _ h1 h3; omega
    · injection he with _ _ h3; omega
  go_wp2
  go_ret
  exact ⟨_, _, _, rfl, ⟨hcap, hr⟩, hb, ho⟩
end Go.Proofs.Ytaagioghkicdkaa
