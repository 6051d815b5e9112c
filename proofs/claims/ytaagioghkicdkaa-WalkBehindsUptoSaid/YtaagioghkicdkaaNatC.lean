/- Contracts of package nat: sums and differences. -/
import Derived.Test.YtaagioghkicdkaaNatB
set_option linter.unusedVariables false
set_option linter.unusedSimpArgs false
namespace Go.Proofs.Ytaagioghkicdkaa
open Go.RowKit Go.Proofs.YtaagioghkicdkaaW.PrintWords Mt

def addI (xs ys zs : List Int) (m : Nat) (k : Nat) (c : Int) : Prop := 0 ≤ c ∧ c ≤ 1 ∧ zs.length = m ∧ Lim zs ∧ val (zs.take k) + B k * c = val (xs.take k) + val (ys.take k)
theorem addI.lim {xs ys zs : List Int} {m k : Nat} {c : Int} (h : addI xs ys zs m k c) : Lim zs := h.2.2.2.1
theorem addI.len {xs ys zs : List Int} {m k : Nat} {c : Int} (h : addI xs ys zs m k c) : zs.length = m := h.2.2.1
theorem addI.bd {xs ys zs : List Int} {m k : Nat} {c : Int} (h : addI xs ys zs m k c) : 0 ≤ c ∧ c ≤ 1 := ⟨h.1, h.2.1⟩
theorem addI_start (xs ys : List Int) (m : Nat) : addI xs ys (List.replicate m 0) m 0 0 := ⟨by omega, by omega, by simp, Lim.noughts _, by simp [val]⟩
theorem addI_step {xs ys zs : List Int} {m k : Nat} {c y : Int} (h : addI xs ys zs m k c) (hk : k < xs.length) (hm : k < m) (hx : Lim xs) (hy0 : 0 ≤ y) (hy1 : y < 4294967296)
    (hy : val (ys.take (k + 1)) = val (ys.take k) + B k * y) (v : Int) (hv : v = c + at_ xs k + y) :
    addI xs ys (zs.set k (v % 4294967296)) m (k + 1) (v / 4294967296) := by
  obtain ⟨h0, h1, h2, h3, h4⟩ := h
  have hx1 := hx.at_ k
  have e : v % 4294967296 + 4294967296 * (v / 4294967296) = c + at_ xs k + y := by omega
  refine ⟨by omega, by omega, by simpa using h2, h3.set _ (by omega) (by omega), ?_⟩
  rw [take_set _ (by omega), val_snoc, len_take (by omega), val_take_succ hk, hy, B_succ]
  have e2 := congrArg (fun t => B k * t) e
  simp only [Int.mul_add] at e2
  have e3 : 4294967296 * B k * (v / 4294967296) = B k * (4294967296 * (v / 4294967296)) := by rw [Int.mul_comm 4294967296, Int.mul_assoc]
  omega
theorem addI_end {xs ys zs : List Int} {m : Nat} {c : Int} (h : addI xs ys zs m xs.length c) (hm : m = xs.length + 1) (hl : ys.length ≤ xs.length) (v : Int) (hv : v = c) : val (zs.set xs.length v) = val xs + val ys ∧ Lim (zs.set xs.length v) := by
  obtain ⟨h0, h1, h2, h3, h4⟩ := h
  subst hv
  refine ⟨?_, h3.set _ h0 (by omega)⟩
  rw [List.take_length, List.take_of_length_le hl] at h4
  have e := take_set (xs := zs) (k := xs.length) v (by omega)
  rw [List.take_of_length_le (by simp; omega)] at e
  rw [e, val_snoc, len_take (by omega)]
  exact h4

set_option maxRecDepth 100000 in
set_option maxHeartbeats 1600000 in
theorem nat_Add_lists (A B : Option Addr) (na nb ca cb : Nat) (xs ys : List Int) (w : World) (ha : ReadsInt w .u32 A na xs) (hb : ReadsInt w .u32 B nb ys) (hx : Lim xs) (hy : Lim ys) (N : Nat) (hN : (N : Int) = val xs + val ys) (hsa : na ≤ 35184372088832) (hsb : nb ≤ 35184372088832) :
    Calls Try.prog 150 #[.slice A na ca, .slice B nb cb] w fun e w' => ∃ C n c, e = .returned (.slice C n c) ∧ CN w' C n c N ∧ Below w.heap.size w w' := by
  have mka := print_make (P := Try.prog) 29 93 .u32 4 Try.underlying29 infoU32 (by omega) (na + 1) (by omega)
  have mkb := print_make (P := Try.prog) 29 93 .u32 4 Try.underlying29 infoU32 (by omega) (nb + 1) (by omega)
  simp only [Int.natCast_add, Int.cast_ofNat_Int] at mka mkb
  have HA := Lib.hid ha
  have HB := Lib.hid hb
  have HN := Lib.hid hN
  have HX := Lib.hid hx
  have HY := Lib.hid hy
  have HLA := Lib.hid (show xs.length = na from ha.1)
  have HLB := Lib.hid (show ys.length = nb from hb.1)
  clear ha hb hN hx hy
  by_cases hsw : na < nb
  · go_enter Try.func150, Try.ntmps150
    go_wp2
    go_loopw [6, 7, 21] (fun c _ i wr => ∃ (k : Nat) (bw : Int) (zs : List Int), k ≤ nb ∧ i = .int .i64 k ∧ c = .int .u64 bw ∧ addI ys xs zs (nb + 1) k bw ∧ wr.ownsRow w.heap.size 93 1 (.slice (some ⟨w.heap.size, 0, none⟩) (nb + 1) (nb + 1)) (nb + 1) (nums .u32 zs) ∧ Below w.heap.size w wr) (fun _ _ i _ => nb - (intOf i).toNat)
    case atStart => exact ⟨0, 0, List.replicate (nb + 1) 0, Nat.zero_le _, rfl, rfl, addI_start ys xs _, own_made w _ _ _ _ (Nat.le_refl _) (by omega), (Below.refl _ _).alloc (Nat.le_refl _) _⟩
    case round =>
      obtain ⟨k, bw, zs, hk, rfl, rfl, hR, hO, hBl⟩ := hrel
      have hbw := hR.bd
      have HR := Lib.hid hR
      have HO := Lib.hid hO
      have HBl := Lib.hid hBl
      clear hR hO hBl
      obtain ⟨ho1, ho2⟩ := own_at HO.out k (by omega) (by omega)
      simp only [Int.toNat_natCast, rd_at] at ho1 ho2
      have hst := fun v => own_store HO.out (k : Int) v
      simp only [Int.toNat_natCast] at hst
      have HST := Lib.hid hst
      clear hst
      by_cases hlt : k < nb
      · obtain ⟨ad, rfl, hx⟩ := HB.out.at_ k (by omega) (by omega)
        simp only [Int.toNat_natCast, rd_at] at hx
        replace hx := pw_cell_below HBl.out hx
        by_cases hlt2 : k < na
        · obtain ⟨bd, rfl, hy⟩ := HA.out.at_ k (by omega) (by omega)
          simp only [Int.toNat_natCast, rd_at] at hy
          replace hy := pw_cell_below HBl.out hy
          have bx := HY.out.at_ k
          have bY := HX.out.at_ k
          go_wp2
          go_roundw
          case rel =>
            refine ⟨k + 1, _, _, by omega, by go_num, rfl, addI_step HR.out (by rw [HLB.out]; exact hlt) (by omega) HY.out bY.1 bY.2 (val_take_succ (by rw [HLA.out]; exact hlt2)) _ ?_, (HST.out _).1, HBl.out.setCell (Nat.le_refl _) _⟩
            all_goals (try simp only [IntKind.wrap_u64])
            all_goals omega
          case measure => simp [intOf]; omega
        · have bx := HY.out.at_ k
          go_wp2
          go_roundw
          case rel =>
            refine ⟨k + 1, _, _, by omega, by go_num, rfl, addI_step (y := 0) HR.out (by rw [HLB.out]; exact hlt) (by omega) HY.out (by omega) (by omega) (by rw [List.take_of_length_le (by rw [HLA.out]; omega), List.take_of_length_le (by rw [HLA.out]; omega)]; omega) _ ?_, (HST.out _).1, HBl.out.setCell (Nat.le_refl _) _⟩
            all_goals (try simp only [IntKind.wrap_u64])
            all_goals omega
          case measure => simp [intOf]; omega
      · obtain rfl : k = nb := by omega
        have he := addI_end (by rw [HLB.out]; exact HR.out) (by rw [HLB.out]) (by rw [HLB.out, HLA.out]; omega) bw rfl
        have HE := Lib.hid he
        clear he
        go_wp2_with fail
        obtain ⟨A', c', he, hr⟩ := own_reads (HST.out bw).1
        cases he
        with_reducible refine (cut_ok (Nat.le_refl _) hr (by rw [← HLB.out]; exact HE.out.2) (N := N) (by rw [HN.out, ← HLB.out, HE.out.1]; omega)).mono ?_
        rintro e w' ⟨m, rfl, rfl, hC⟩
        go_wp2
        go_ret
        exact ⟨_, _, _, rfl, hC, HBl.out.setCell (Nat.le_refl _) _⟩
  · go_enter Try.func150, Try.ntmps150
    go_wp2
    go_loopw [6, 7, 21] (fun c _ i wr => ∃ (k : Nat) (bw : Int) (zs : List Int), k ≤ na ∧ i = .int .i64 k ∧ c = .int .u64 bw ∧ addI xs ys zs (na + 1) k bw ∧ wr.ownsRow w.heap.size 93 1 (.slice (some ⟨w.heap.size, 0, none⟩) (na + 1) (na + 1)) (na + 1) (nums .u32 zs) ∧ Below w.heap.size w wr) (fun _ _ i _ => na - (intOf i).toNat)
    case atStart => exact ⟨0, 0, List.replicate (na + 1) 0, Nat.zero_le _, rfl, rfl, addI_start xs ys _, own_made w _ _ _ _ (Nat.le_refl _) (by omega), (Below.refl _ _).alloc (Nat.le_refl _) _⟩
    case round =>
      obtain ⟨k, bw, zs, hk, rfl, rfl, hR, hO, hBl⟩ := hrel
      have hbw := hR.bd
      have HR := Lib.hid hR
      have HO := Lib.hid hO
      have HBl := Lib.hid hBl
      clear hR hO hBl
      obtain ⟨ho1, ho2⟩ := own_at HO.out k (by omega) (by omega)
      simp only [Int.toNat_natCast, rd_at] at ho1 ho2
      have hst := fun v => own_store HO.out (k : Int) v
      simp only [Int.toNat_natCast] at hst
      have HST := Lib.hid hst
      clear hst
      by_cases hlt : k < na
      · obtain ⟨ad, rfl, hx⟩ := HA.out.at_ k (by omega) (by omega)
        simp only [Int.toNat_natCast, rd_at] at hx
        replace hx := pw_cell_below HBl.out hx
        by_cases hlt2 : k < nb
        · obtain ⟨bd, rfl, hy⟩ := HB.out.at_ k (by omega) (by omega)
          simp only [Int.toNat_natCast, rd_at] at hy
          replace hy := pw_cell_below HBl.out hy
          have bx := HX.out.at_ k
          have bY := HY.out.at_ k
          go_wp2
          go_roundw
          case rel =>
            refine ⟨k + 1, _, _, by omega, by go_num, rfl, addI_step HR.out (by rw [HLA.out]; exact hlt) (by omega) HX.out bY.1 bY.2 (val_take_succ (by rw [HLB.out]; exact hlt2)) _ ?_, (HST.out _).1, HBl.out.setCell (Nat.le_refl _) _⟩
            all_goals (try simp only [IntKind.wrap_u64])
            all_goals omega
          case measure => simp [intOf]; omega
        · have bx := HX.out.at_ k
          go_wp2
          go_roundw
          case rel =>
            refine ⟨k + 1, _, _, by omega, by go_num, rfl, addI_step (y := 0) HR.out (by rw [HLA.out]; exact hlt) (by omega) HX.out (by omega) (by omega) (by rw [List.take_of_length_le (by rw [HLB.out]; omega), List.take_of_length_le (by rw [HLB.out]; omega)]; omega) _ ?_, (HST.out _).1, HBl.out.setCell (Nat.le_refl _) _⟩
            all_goals (try simp only [IntKind.wrap_u64])
            all_goals omega
          case measure => simp [intOf]; omega
      · obtain rfl : k = na := by omega
        have he := addI_end (by rw [HLA.out]; exact HR.out) (by rw [HLA.out]) (by rw [HLA.out, HLB.out]; omega) bw rfl
        have HE := Lib.hid he
        clear he
        go_wp2_with fail
        obtain ⟨A', c', he, hr⟩ := own_reads (HST.out bw).1
        cases he
        with_reducible refine (cut_ok (Nat.le_refl _) hr (by rw [← HLA.out]; exact HE.out.2) (N := N) (by rw [HN.out, ← HLA.out, HE.out.1])).mono ?_
        rintro e w' ⟨m, rfl, rfl, hC⟩
        go_wp2
        go_ret
        exact ⟨_, _, _, rfl, hC, HBl.out.setCell (Nat.le_refl _) _⟩
end Go.Proofs.Ytaagioghkicdkaa
