/- Contracts of package nat: a digit of a quotient. -/
import Derived.Test.YtaagioghkicdkaaNatF
set_option linter.unusedVariables false
set_option linter.unusedSimpArgs false
namespace Go.Proofs.Ytaagioghkicdkaa
open Go.RowKit Go.Proofs.YtaagioghkicdkaaW.PrintWords Mt

theorem gmin2_int (k k' : IntKind) (x y : Int) : Builtin.min2 (.int k x) (.int k' y) = pure (.int k (mnI x y)) := by simp only [Builtin.min2, mnI]
theorem gmax2_int (k k' : IntKind) (x y : Int) : Builtin.max2 (.int k x) (.int k' y) = pure (.int k (mxI x y)) := by simp only [Builtin.max2, gt_iff_lt, mxI]
theorem gmax_two (ats : Array TypeId) (ty : TypeId) (a b : Value) : Builtin.max_ ats ty #[a, b] = (Builtin.max2 a b >>= fun s => pure s) := by simp only [Builtin.max_, List.foldlM_cons, List.foldlM_nil]
theorem gmin_two (ats : Array TypeId) (ty : TypeId) (a b : Value) : Builtin.min_ ats ty #[a, b] = (Builtin.min2 a b >>= fun s => pure s) := by simp only [Builtin.min_, List.foldlM_cons, List.foldlM_nil]
attribute [local go_sem] gmax2_int gmin2_int gmax_two gmin_two

/-- A row of limbs of one's own of which us is a part, from o on. -/
theorem part_at {W : World} {base g L cap : Nat} {pre us post : List Int} (h : W.ownsRow base 93 1 (.slice (some ⟨g, 0, none⟩) L cap) L (nums .u32 (pre ++ us ++ post))) (i : Nat) (hi : i < us.length) :
    W.cell? ⟨g, pre.length + i, none⟩ = some (.int .u32 (at_ us i)) ∧ W.frozen? ⟨g, pre.length + i, none⟩ = false := by
  have hl : (pre ++ us ++ post).length = L := by have := h.1; simp [nums] at this ⊢; omega
  have := own_at h ((pre.length + i : Nat) : Int) (by omega) (by simp at hl; omega)
  simp only [Int.toNat_natCast, rd_at] at this
  have e : at_ (pre ++ us ++ post) (pre.length + i) = at_ us i := by
    unfold at_
    rw [List.getD_eq_getElem?_getD, List.getD_eq_getElem?_getD, List.append_assoc, List.getElem?_append_right (by omega), Nat.add_sub_cancel_left, List.getElem?_append_left hi]
  rwa [e] at this
theorem part_store {W : World} {base g L cap : Nat} {pre us post : List Int} (h : W.ownsRow base 93 1 (.slice (some ⟨g, 0, none⟩) L cap) L (nums .u32 (pre ++ us ++ post))) (i : Nat) (hi : i < us.length) (x : Int) :
    (W.setCell ⟨g, pre.length + i, none⟩ (.int .u32 x)).ownsRow base 93 1 (.slice (some ⟨g, 0, none⟩) L cap) L (nums .u32 (pre ++ us.set i x ++ post)) ∧ W.grownBy (W.setCell ⟨g, pre.length + i, none⟩ (.int .u32 x)) (some g) := by
  have := own_store h ((pre.length + i : Nat) : Int) x
  simp only [Int.toNat_natCast] at this
  have e : (pre ++ us ++ post).set (pre.length + i) x = pre ++ us.set i x ++ post := by
    rw [List.append_assoc, List.set_append_right _ _ (by omega), Nat.add_sub_cancel_left, List.set_append_left _ _ hi, List.append_assoc]
  rwa [e] at this

set_option maxRecDepth 100000 in
set_option maxHeartbeats 3200000 in
theorem nat_digit (g o base L cap cu nb cb m N : Nat) (B : Option Addr) (pre us post : List Int) (w : World)
    (ho : w.ownsRow base 93 1 (.slice (some ⟨g, 0, none⟩) L cap) L (nums .u32 (pre ++ us ++ post))) (hpo : pre.length = o) (hul : us.length = m + 2) (hu : Lim us) (hb : CN w B (m + 1) cb N) (hg : g < w.heap.size)
    (hbl : ∀ ad, B = some ad → ad.block ≠ g) (hlt : val us < 4294967296 * (N : Int)) (hs : m ≤ 35184372088832) :
    Calls Try.prog 180 #[.slice (some ⟨g, o, none⟩) (m + 2) cu, .slice B (m + 1) cb] w fun e w' => ∃ us', e = .returned (.int .u32 (val us / N)) ∧
      w'.ownsRow base 93 1 (.slice (some ⟨g, 0, none⟩) L cap) L (nums .u32 (pre ++ us' ++ post)) ∧ us'.length = m + 2 ∧ Lim us' ∧ val us' = val us % N ∧ w.grownBy w' (some g) := by
  subst hpo
  obtain ⟨ub1, ub2⟩ := part_at ho (m + 1) (by omega)
  obtain ⟨ua1, ua2⟩ := part_at ho m (by omega)
  obtain ⟨ad, rfl, hx⟩ := hb.2.at_ m (by omega) (by omega)
  simp only [Int.toNat_natCast, rd_at] at hx
  have bu1 := hu.at_ (m + 1)
  have bu0 := hu.at_ m
  have bv := (dig_lim N).at_ m
  have hvl : (dig N).length = m + 1 := hb.len.symm
  have hv1 : 0 < at_ (dig N) m := by
    have := (nbits_top (n := N) (k := m) hvl).2
    omega
  have hU0 := val_nonneg hu
  have hq1 := guess_ok (us := us) (vs := dig N) (m := m) hu (dig_lim N) hul hvl (by rw [dig_val]; exact hlt) hv1 _ rfl
  rw [dig_val] at hq1
  have hor : bits .or .u64 (at_ us (m + 1) * 4294967296) (at_ us m) = at_ us (m + 1) * 4294967296 + at_ us m := or_u64 32 (by omega) (by omega) (by omega) bu0.1 (by omega) (by omega)
  obtain ⟨q, hq⟩ : ∃ q, mnI ((at_ us (m + 1) * 4294967296 + at_ us m) / at_ (dig N) m) 4294967295 = q := ⟨_, rfl⟩
  rw [hq] at hq1
  have bq : 0 ≤ q ∧ q < 4294967296 := ⟨hq1.1, hq1.2.1⟩
  have HO := Lib.hid ho
  have HB := Lib.hid hb.2
  have HQ := Lib.hid hq1.2.2
  have HVL := Lib.hid hvl
  have HUL := Lib.hid hul
  have HU := Lib.hid hu
  have HBL := Lib.hid (hbl ad rfl)
  clear ho hb hq1 hvl hul hu hlt hbl
  have p1 : (0 : Int) ≤ (m : Int) + 1 := by omega
  have p2 : (m : Int) + 1 < (m : Int) + 2 := by omega
  have p3 : (m : Int) < (m : Int) + 2 := by omega
  go_enter Try.func180, Try.ntmps180
  go_wp2
  go_quiet (fail)
  go_wp2
  clear hor hq ub1 ub2 ua1 ua2 hx bu1 bu0 bv
  go_loopw [8, 9, 41] (fun c b i wr => ∃ (k : Nat) (cy bw : Int) (us' : List Int), k ≤ m + 2 ∧ i = .int .i64 k ∧ c = .int .u64 cy ∧ b = .int .u64 bw ∧ subI us (dig N) us' q (m + 2) k cy bw ∧ wr.ownsRow base 93 1 (.slice (some ⟨g, 0, none⟩) L cap) L (nums .u32 (pre ++ us' ++ post)) ∧ w.grownBy wr (some g) ∧ (k = m + 2 → cy = 0)) (fun _ _ i _ => m + 2 - (intOf i).toNat)
  case atStart => exact ⟨0, 0, 0, us, Nat.zero_le _, rfl, rfl, rfl, subI_start HUL.out HU.out, HO.out, grown_drewN (World.grownBy.refl w _) _, fun _ => rfl⟩
  case round =>
    obtain ⟨k, cy, bw, us', hk, rfl, rfl, rfl, hR, hO, hG, hz⟩ := hrel
    have hcy := hR.cy
    have hbw := hR.bw
    have HR := Lib.hid hR
    have HO' := Lib.hid hO
    have HG := Lib.hid hG
    have HZ := Lib.hid hz
    clear hR hO hG hz
    by_cases hlt : k < m + 2
    · obtain ⟨hu1, hu2⟩ := part_at HO'.out k (by rw [HR.out.len]; exact hlt)
      rw [HR.out.at_] at hu1
      have bu := HU.out.at_ k
      by_cases hlt2 : k < m + 1
      · obtain ⟨ad', e', hy⟩ := HB.out.at_ k (by omega) (by omega)
        cases e'
        simp only [Int.toNat_natCast, rd_at] at hy
        replace hy := grown_cell HG.out hy (by rw [add_block]; exact HBL.out)
        have bv := (dig_lim N).at_ k
        have hmb := mul_bound bq.1 bq.2 bv.1 bv.2 hcy.1 hcy.2 (show (0 : Int) ≤ 0 by omega) (by omega)
        have e1 : IntKind.u64.wrap (q * at_ (dig N) k) = q * at_ (dig N) k := IntWalk.u64_in _ (by omega)
        obtain ⟨d, hd⟩ : ∃ d, (at_ us k - (cy + q * at_ (dig N) k) % 4294967296 - bw) % 18446744073709551616 = d := ⟨_, rfl⟩
        have e2 : IntKind.u64.wrap (IntKind.u64.wrap (at_ us k - (cy + q * at_ (dig N) k) % 4294967296) - bw) = d := by
          rw [IntKind.wrap_u64, IntKind.wrap_u64]; omega
        have HDD := Lib.hid hd
        clear hd
        have hst := (part_store HO'.out k (by rw [HR.out.len]; exact hlt) (d % 4294967296))
        have HST := Lib.hid hst
        clear hst
        go_wp2
        go_roundw
        case rel => exact ⟨k + 1, _, _, _, by omega, by go_num, rfl, rfl, subI_step HR.out hlt HUL.out bq.1 bq.2 bv.1 bv.2 (val_take_succ (by rw [HVL.out]; exact hlt2)) _ rfl _ HDD.out.symm, HST.out.1, HG.out.trans HST.out.2, fun h => by omega⟩
        case measure => simp [intOf] <;> omega
      · obtain rfl : k = m + 1 := by omega
        obtain ⟨d, hd⟩ : ∃ d, (at_ us (m + 1) - cy - bw) % 18446744073709551616 = d := ⟨_, rfl⟩
        have e2 : IntKind.u64.wrap (IntKind.u64.wrap (at_ us (m + 1) - cy) - bw) = d := by
          rw [IntKind.wrap_u64, IntKind.wrap_u64]; omega
        have HDD := Lib.hid hd
        clear hd
        have hst := (part_store HO'.out (m + 1) (by rw [HR.out.len]; exact hlt) (d % 4294967296))
        have HST := Lib.hid hst
        clear hst
        have hp1 : cy % 4294967296 = cy := by omega
        have hp2 : cy / 4294967296 = 0 := by omega
        go_wp2
        go_roundw
        case rel =>
          have hs := subI_step (y := 0) HR.out hlt HUL.out bq.1 bq.2 (by omega) (by omega) (by rw [List.take_of_length_le (by rw [HVL.out]; omega), List.take_of_length_le (by rw [HVL.out]; omega)]; omega) cy (by omega) d (by rw [hp1]; exact HDD.out.symm)
          rw [hp2] at hs
          exact ⟨m + 1 + 1, _, _, _, by omega, by go_num, rfl, rfl, hs, HST.out.1, HG.out.trans HST.out.2, fun _ => rfl⟩
        case measure => simp [intOf] <;> omega
    · obtain rfl : k = m + 2 := by omega
      have hc0 := HZ.out rfl
      subst hc0
      have he := subI_end HR.out HUL.out (by rw [HVL.out]; omega) rfl
      rw [dig_val] at he
      have hD : digI us' (val us) N (m + 2) q bw := ⟨HR.out.len, HR.out.lim, hbw, bq, HQ.out, he⟩
      have HD := Lib.hid hD
      clear HR HZ hD he hcy
      obtain ⟨wo, hwo⟩ : ∃ wo : World, wo = wr := ⟨_, rfl⟩
      subst hwo
      go_wp2
      go_loopw [7, 9] (fun qv b wr => ∃ (q bw : Int) (us' : List Int), qv = .int .u64 q ∧ b = .int .u64 bw ∧ digI us' (val us) N (m + 2) q bw ∧ wr.ownsRow base 93 1 (.slice (some ⟨g, 0, none⟩) L cap) L (nums .u32 (pre ++ us' ++ post)) ∧ w.grownBy wr (some g)) (fun qv _ _ => (intOf qv).toNat)
      case atStart => exact ⟨q, bw, us', rfl, rfl, HD.out, HO'.out, HG.out⟩
      case round =>
        clear HD HO' HG hbw bq HQ
        obtain ⟨q, bw, us', rfl, rfl, hD, hO, hG⟩ := hrel
        have hbw := hD.bw
        have bq := hD.q
        have HD := Lib.hid hD
        have HO' := Lib.hid hO
        have HG := Lib.hid hG
        clear hD hO hG
        rcases (show bw = 0 ∨ bw = 1 by omega) with rfl | rfl
        · have hN : (0 : Int) < N := by
            rcases Nat.eq_zero_or_pos N with h | h
            · subst h; rw [dig_zero] at HVL; exact absurd HVL.out (by simp)
            · omega
          have he := digI_end HD.out hN
          have HE := Lib.hid he
          clear he
          go_wp2
          go_ret
          exact ⟨us', ret_int HE.out.1, HO'.out, HD.out.len, HD.out.lim, HE.out.2, HG.out⟩
        · have hp := digI_pos HD.out hU0
          obtain ⟨wo, hwo⟩ : ∃ wo : World, wo = wr := ⟨_, rfl⟩
          subst hwo
          go_wp2
          go_loopw [13, 84] (fun c i wr => ∃ (k : Nat) (cy : Int) (ut : List Int), k ≤ m + 2 ∧ i = .int .i64 k ∧ c = .int .u64 cy ∧ putI us' (dig N) ut (m + 2) k cy ∧ wr.ownsRow base 93 1 (.slice (some ⟨g, 0, none⟩) L cap) L (nums .u32 (pre ++ ut ++ post)) ∧ w.grownBy wr (some g)) (fun _ i _ => m + 2 - (intOf i).toNat)
          case atStart => exact ⟨0, 0, us', Nat.zero_le _, rfl, rfl, putI_start HD.out.len HD.out.lim, HO'.out, HG.out⟩
          case round =>
            obtain ⟨k, cy, ut, hk, rfl, rfl, hR, hO2, hG2⟩ := hrel
            have hcy := hR.c
            have HR := Lib.hid hR
            have HO2 := Lib.hid hO2
            have HG2 := Lib.hid hG2
            clear hR hO2 hG2
            by_cases hlt : k < m + 2
            · obtain ⟨hu1, hu2⟩ := part_at HO2.out k (by rw [HR.out.len]; exact hlt)
              rw [HR.out.at_] at hu1
              have bu := HD.out.lim.at_ k
              by_cases hlt2 : k < m + 1
              · obtain ⟨ad', e', hy⟩ := HB.out.at_ k (by omega) (by omega)
                cases e'
                simp only [Int.toNat_natCast, rd_at] at hy
                replace hy := grown_cell HG2.out hy (by rw [add_block]; exact HBL.out)
                have bv := (dig_lim N).at_ k
                have hst := (part_store HO2.out k (by rw [HR.out.len]; exact hlt) ((cy + at_ us' k + at_ (dig N) k) % 4294967296))
                have HST := Lib.hid hst
                clear hst
                go_wp2
                go_roundw
                case rel => exact ⟨k + 1, _, _, by omega, by go_num, rfl, putI_step HR.out hlt HD.out.len bv.1 bv.2 (val_take_succ (by rw [HVL.out]; exact hlt2)) _ rfl, HST.out.1, HG2.out.trans HST.out.2⟩
                case measure => simp [intOf] <;> omega
              · obtain rfl : k = m + 1 := by omega
                have hst := (part_store HO2.out (m + 1) (by rw [HR.out.len]; exact hlt) ((cy + at_ us' (m + 1)) % 4294967296))
                have HST := Lib.hid hst
                clear hst
                go_wp2
                go_roundw
                case rel => exact ⟨m + 1 + 1, _, _, by omega, by go_num, rfl, putI_step (y := 0) HR.out hlt HD.out.len (by omega) (by omega) (by rw [List.take_of_length_le (by rw [HVL.out]; omega), List.take_of_length_le (by rw [HVL.out]; omega)]; omega) _ (by omega), HST.out.1, HG2.out.trans HST.out.2⟩
                case measure => simp [intOf] <;> omega
            · obtain rfl : k = m + 2 := by omega
              have hs := digI_step HD.out (dig_val N) hU0 HR.out (by rw [HVL.out]; omega)
              have HS := Lib.hid hs
              clear hs
              go_wp2
              go_roundw
              case rel => exact ⟨q - 1, 1 - cy, ut, rfl, rfl, HS.out, HO2.out, HG2.out⟩
              case measure => simp [intOf] <;> omega
end Go.Proofs.Ytaagioghkicdkaa
