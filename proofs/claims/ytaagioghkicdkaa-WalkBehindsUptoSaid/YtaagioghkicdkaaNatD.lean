/- Contracts of package nat: products. -/
import Derived.Test.YtaagioghkicdkaaNatC
set_option linter.unusedVariables false
set_option linter.unusedSimpArgs false
namespace Go.Proofs.Ytaagioghkicdkaa
open Go.RowKit Go.Proofs.YtaagioghkicdkaaW.PrintWords Mt

theorem mul_bound {x y c z : Int} (hx0 : 0 ≤ x) (hx1 : x < 4294967296) (hy0 : 0 ≤ y) (hy1 : y < 4294967296) (hc0 : 0 ≤ c) (hc1 : c < 4294967296) (hz0 : 0 ≤ z) (hz1 : z < 4294967296) : 0 ≤ x * y ∧ c + (x * y + z) < 18446744073709551616 := by
  have h1 : 0 ≤ x * y := Int.mul_nonneg hx0 hy0
  have h2 : x * y ≤ 4294967295 * 4294967295 := Int.mul_le_mul (by omega) (by omega) hy0 (by omega)
  omega

/-- Row i, j limbs of it: 'tot' is what the rows ahead say. -/
def mulI (ys zs : List Int) (n i : Nat) (tot x : Int) (j : Nat) (c : Int) : Prop := 0 ≤ c ∧ c < 4294967296 ∧ zs.length = n ∧ Lim zs ∧ (∀ k, i + ys.length ≤ k → at_ zs k = 0) ∧ val zs + B (i + j) * c = tot + B i * (x * val (ys.take j))
theorem mulI.lim {ys zs : List Int} {n i : Nat} {tot x : Int} {j : Nat} {c : Int} (h : mulI ys zs n i tot x j c) : Lim zs := h.2.2.2.1
theorem mulI.len {ys zs : List Int} {n i : Nat} {tot x : Int} {j : Nat} {c : Int} (h : mulI ys zs n i tot x j c) : zs.length = n := h.2.2.1
theorem mulI.bd {ys zs : List Int} {n i : Nat} {tot x : Int} {j : Nat} {c : Int} (h : mulI ys zs n i tot x j c) : 0 ≤ c ∧ c < 4294967296 := ⟨h.1, h.2.1⟩
theorem mulI_step {ys zs : List Int} {n i : Nat} {tot x : Int} {j : Nat} {c : Int} (h : mulI ys zs n i tot x j c) (hn : n = i + ys.length ∨ i + ys.length < n) (hj : j < ys.length) (hx0 : 0 ≤ x) (hx1 : x < 4294967296) (hy : Lim ys) (v : Int) (hv : v = c + (x * at_ ys j + at_ zs (i + j))) :
    mulI ys (zs.set (i + j) (v % 4294967296)) n i tot x (j + 1) (v / 4294967296) := by
  obtain ⟨h0, h1, h2, h3, h4, h5⟩ := h
  have hb := hy.at_ j
  have hz := h3.at_ (i + j)
  have hm := mul_bound hx0 hx1 hb.1 hb.2 h0 h1 hz.1 hz.2
  refine ⟨by omega, by omega, by simpa using h2, h3.set _ (by omega) (by omega), fun k hk => by rw [at_set_ne _ (by omega)]; exact h4 k hk, ?_⟩
  rw [val_set _ (by omega), val_take_succ hj, show i + (j + 1) = (i + j) + 1 from by omega, B_succ]
  have e : v % 4294967296 + 4294967296 * (v / 4294967296) - at_ zs (i + j) = c + x * at_ ys j := by omega
  have e2 := congrArg (fun t => B (i + j) * t) e
  simp only [Int.mul_add, Int.mul_sub] at e2
  rw [Int.mul_sub]
  have e3 : 4294967296 * B (i + j) * (v / 4294967296) = B (i + j) * (4294967296 * (v / 4294967296)) := by rw [Int.mul_comm 4294967296, Int.mul_assoc]
  have e4 : B i * (x * (val (ys.take j) + B j * at_ ys j)) = B i * (x * val (ys.take j)) + B (i + j) * (x * at_ ys j) := by
    rw [B_add]; grind
  omega
/-- Ahead of row i. -/
def mulO (xs ys zs : List Int) (n i : Nat) : Prop := zs.length = n ∧ Lim zs ∧ (∀ k, i + ys.length ≤ k → at_ zs k = 0) ∧ val zs = val (xs.take i) * val ys
theorem mulO.len {xs ys zs : List Int} {n i : Nat} (h : mulO xs ys zs n i) : zs.length = n := h.1
theorem mulO_start (xs ys : List Int) (n : Nat) : mulO xs ys (List.replicate n 0) n 0 := ⟨by simp, Lim.noughts _, fun k _ => by
  unfold at_; rw [List.getD_eq_getElem?_getD, List.getElem?_replicate]; split <;> rfl, by rw [val_noughts]; simp [val]⟩
theorem mulI_start {xs ys zs : List Int} {n i : Nat} (h : mulO xs ys zs n i) : mulI ys zs n i (val (xs.take i) * val ys) (at_ xs i) 0 0 := by
  obtain ⟨h1, h2, h3, h4⟩ := h
  exact ⟨by omega, by omega, h1, h2, h3, by rw [h4]; simp [val]⟩
theorem mulO_step {xs ys zs : List Int} {n i : Nat} {c : Int} (h : mulI ys zs n i (val (xs.take i) * val ys) (at_ xs i) ys.length c) (hi : i < xs.length) (hn : i + ys.length < n) : mulO xs ys (zs.set (i + ys.length) c) n (i + 1) := by
  obtain ⟨h0, h1, h2, h3, h4, h5⟩ := h
  refine ⟨by simpa using h2, h3.set _ h0 h1, fun k hk => by rw [at_set_ne _ (by omega)]; exact h4 k (by omega), ?_⟩
  rw [val_set _ (by omega), h4 _ (Nat.le_refl _), Int.sub_zero, val_take_succ hi, h5, List.take_length]
  grind
theorem mulO_end {xs ys zs : List Int} {n : Nat} (h : mulO xs ys zs n xs.length) : val zs = val xs * val ys ∧ Lim zs := by
  obtain ⟨h1, h2, h3, h4⟩ := h
  rw [List.take_length] at h4
  exact ⟨h4, h2⟩

set_option maxRecDepth 100000 in
set_option maxHeartbeats 1600000 in
theorem nat_Mul (A B : Option Addr) (na nb ca cb M N : Nat) (w : World) (ha : RN w A na ca M) (hb : RN w B nb cb N) (hs : lim M + lim N ≤ 70368744177664) :
    Calls Try.prog 161 #[.slice A na ca, .slice B nb cb] w fun e w' => ∃ C n c, e = .returned (.slice C n c) ∧ CN w' C n c (M * N) ∧ Below w.heap.size w w' := by
  go_enter Try.func161, Try.ntmps161
  go_wp2_with fail
  with_reducible refine (trim_rn ha).mono ?_
  rintro e w' ⟨ma, rfl, rfl, ca'⟩
  go_wp2_with fail
  with_reducible refine (trim_rn hb).mono ?_
  rintro e w' ⟨mb, rfl, rfl, cb'⟩
  rename_i w
  have la : ma = lim M := ca'.len
  have lb : mb = lim N := cb'.len
  have mk := print_make (P := Try.prog) 29 93 .u32 4 Try.underlying29 infoU32 (by omega) (ma + mb) (by omega)
  simp only [Int.natCast_add] at mk
  have hs' : ma + mb ≤ 70368744177664 := by omega
  have HA := Lib.hid ca'.2
  have HB := Lib.hid cb'.2
  have LA := Lib.hid la
  have LB := Lib.hid lb
  have HLA := Lib.hid (show (dig M).length = ma from la.symm)
  have HLB := Lib.hid (show (dig N).length = mb from lb.symm)
  clear ha hb ca' cb' la lb hs
  go_wp2
  go_loopw [21] (fun i wr => ∃ (k : Nat) (zs : List Int), k ≤ ma ∧ i = .int .i64 k ∧ mulO (dig M) (dig N) zs (ma + mb) k ∧ wr.ownsRow w.heap.size 93 1 (.slice (some ⟨w.heap.size, 0, none⟩) (ma + mb) (ma + mb)) (ma + mb) (nums .u32 zs) ∧ Below w.heap.size w wr) (fun i _ => ma - (intOf i).toNat)
  case atStart => exact ⟨0, List.replicate (ma + mb) 0, Nat.zero_le _, rfl, mulO_start _ _ _, own_made w _ _ _ _ (Nat.le_refl _) (by omega), (Below.refl _ _).alloc (Nat.le_refl _) _⟩
  case round =>
    obtain ⟨k, zs, hk, rfl, hR, hO, hBl⟩ := hrel
    have HR := Lib.hid hR
    have HO := Lib.hid hO
    have HBl := Lib.hid hBl
    clear hR hO hBl
    by_cases hlt : k < ma
    · obtain ⟨ad, rfl, hx0⟩ := HA.out.at_ k (by omega) (by omega)
      simp only [Int.toNat_natCast, rd_at] at hx0
      have bx := (dig_lim M).at_ k
      obtain ⟨wo, hwo⟩ : ∃ wo : World, wo = wr := ⟨_, rfl⟩
      subst hwo
      go_wp2
      go_loopw [7, 26] (fun c i wr => ∃ (j : Nat) (cy : Int) (zs : List Int), j ≤ mb ∧ i = .int .i64 j ∧ c = .int .u64 cy ∧ mulI (dig N) zs (ma + mb) k (val ((dig M).take k) * val (dig N)) (at_ (dig M) k) j cy ∧ wr.ownsRow w.heap.size 93 1 (.slice (some ⟨w.heap.size, 0, none⟩) (ma + mb) (ma + mb)) (ma + mb) (nums .u32 zs) ∧ Below w.heap.size w wr) (fun _ i _ => mb - (intOf i).toNat)
      case atStart => exact ⟨0, 0, zs, Nat.zero_le _, rfl, rfl, mulI_start HR.out, HO.out, HBl.out⟩
      case round =>
        clear HR HO HBl
        obtain ⟨j, cy, zs', hj, rfl, rfl, hR, hO, hBl⟩ := hrel
        have hcy := hR.bd
        have HR := Lib.hid hR
        have HO := Lib.hid hO
        have HBl := Lib.hid hBl
        clear hR hO hBl
        have hx := pw_cell_below HBl.out hx0
        by_cases hlt2 : j < mb
        · obtain ⟨bd, rfl, hy⟩ := HB.out.at_ j (by omega) (by omega)
          simp only [Int.toNat_natCast, rd_at] at hy
          replace hy := pw_cell_below HBl.out hy
          have by_ := (dig_lim N).at_ j
          have bz := HR.out.lim.at_ (k + j)
          obtain ⟨ho1, ho2⟩ := own_at HO.out ((k + j : Nat) : Int) (by omega) (by omega)
          simp only [Int.toNat_natCast, rd_at] at ho1 ho2
          have hst := fun v => own_store HO.out ((k + j : Nat) : Int) v
          simp only [Int.toNat_natCast] at hst
          have HST := Lib.hid hst
          clear hst
          go_wp2
          go_quiet (fail)
          go_wp2
          go_roundw
          case rel =>
            refine ⟨j + 1, _, _, by omega, by go_num, rfl, mulI_step HR.out (by rw [HLB.out]; omega) (by rw [HLB.out]; omega) bx.1 bx.2 (dig_lim N) _ ?_, (HST.out _).1, pw_below_drewN (HBl.out.setCell (Nat.le_refl _) _) _⟩
            have hm := mul_bound bx.1 bx.2 by_.1 by_.2 hcy.1 hcy.2 bz.1 bz.2
            simp only [IntKind.wrap_u64]
            omega
          case measure => simp [intOf]; omega
        · obtain rfl : j = mb := by omega
          obtain ⟨ho1, ho2⟩ := own_at HO.out ((k + j : Nat) : Int) (by omega) (by omega)
          simp only [Int.toNat_natCast, rd_at] at ho1 ho2
          have hst := fun v => own_store HO.out ((k + j : Nat) : Int) v
          simp only [Int.toNat_natCast] at hst
          have HST := Lib.hid hst
          clear hst
          go_wp2
          go_roundw
          case rel =>
            exact ⟨k + 1, zs'.set (k + j) cy, by omega, by go_num, by rw [← HLB.out]; exact mulO_step (by rw [HLB.out]; exact HR.out) (by rw [HLA.out]; exact hlt) (by rw [HLB.out]; omega), (HST.out _).1, HBl.out.setCell (Nat.le_refl _) _⟩
          case measure => simp [intOf]; omega
    · obtain rfl : k = ma := by omega
      have he := mulO_end (by rw [HLA.out]; exact HR.out)
      have HE := Lib.hid he
      clear he
      go_wp2_with fail
      obtain ⟨A', c', he, hr⟩ := own_reads HO.out
      cases he
      with_reducible refine (cut_ok (Nat.le_refl _) hr HE.out.2 (N := M * N) (by rw [HE.out.1, dig_val, dig_val, Int.natCast_mul])).mono ?_
      rintro e w' ⟨m, rfl, rfl, hC⟩
      go_wp2
      go_ret
      exact ⟨_, _, _, rfl, hC, HBl.out⟩
end Go.Proofs.Ytaagioghkicdkaa
