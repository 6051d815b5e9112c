/- Contracts of package nat: quotients and rests. -/
import Derived.Test.YtaagioghkicdkaaNatG
set_option linter.unusedVariables false
set_option linter.unusedSimpArgs false
namespace Go.Proofs.Ytaagioghkicdkaa
open Go.RowKit Go.Proofs.YtaagioghkicdkaaW.PrintWords Mt

theorem own_cap {w : World} {base e size n c : Nat} {A : Option Addr} {xs : List Value} (h : w.ownsRow base e size (.slice A n c) n xs) : n ≤ c := by
  rcases h.2 with ⟨h1, h2⟩ | ⟨g, cap, cur, he, _, _, h2, _⟩
  · injection h1 with _ h1 h3; omega
  · injection he with _ _ h3; omega
theorem RN.len_ge {w : World} {A : Option Addr} {n c N : Nat} (h : RN w A n c N) : lim N ≤ n := by
  obtain ⟨_, xs, h1, h2, h3⟩ := h
  exact lim_le (by rw [← h3, ← h1.1]; exact val_lt h2)

set_option maxRecDepth 100000 in
set_option maxHeartbeats 800000 in
theorem nat_Div_zero (A B : Option Addr) (na nb ca cb M : Nat) (w : World) (ha : RN w A na ca M) (hb : RN w B nb cb 0) :
    Calls Try.prog 162 #[.slice A na ca, .slice B nb cb] w fun e w' => e = .returned (.tuple #[.slice none 0 0, .slice none 0 0, .int .i64 11]) ∧ w = w' := by
  go_enter Try.func162, Try.ntmps162
  go_wp2_with fail
  with_reducible refine (trim_rn ha).mono ?_
  rintro e w' ⟨ma, rfl, rfl, ca'⟩
  go_wp2_with fail
  with_reducible refine (trim_rn hb).mono ?_
  rintro e w' ⟨mb, rfl, rfl, cb'⟩
  have lb := cb'.len
  rw [lim_zero] at lb
  subst lb
  clear ha hb ca' cb'
  go_wp2
  go_ret3
  exact ⟨rfl, rfl⟩

set_option maxRecDepth 100000 in
set_option maxHeartbeats 3200000 in
theorem own_fresh {w : World} {base n c : Nat} {e : Nat} {A : Option Addr} {xs : List Value} (h : w.ownsRow base e 1 (.slice A n c) n xs) : ∀ ad, A = some ad → base ≤ ad.block := fun ad ea => by
  rcases h.2 with ⟨h2, _⟩ | ⟨g, cap, cur, h2, hg, _⟩
  · cases h2; cases ea
  · cases h2; cases ea; exact hg
set_option maxRecDepth 100000 in
set_option maxHeartbeats 3200000 in
theorem nat_DivF (A B : Option Addr) (na nb ca cb M N : Nat) (w : World) (ha : RN w A na ca M) (hb : RN w B nb cb N) (hN : 0 < N) (hsa : na ≤ 8796093022208) (hsb : nb ≤ 8796093022208) :
    Calls Try.prog 162 #[.slice A na ca, .slice B nb cb] w fun e w' => ∃ C1 n1 c1 C2 n2 c2, e = .returned (.tuple #[.slice C1 n1 c1, .slice C2 n2 c2, .int .i64 0]) ∧ CN w' C1 n1 c1 (M / N) ∧ CN w' C2 n2 c2 (M % N) ∧ Below w.heap.size w w' ∧ (∀ ad, C1 = some ad → w.heap.size ≤ ad.block) ∧ (∀ ad, C2 = some ad → w.heap.size ≤ ad.block) := by
  have hla := ha.len_ge
  have hlb := hb.len_ge
  go_enter Try.func162, Try.ntmps162
  go_wp2_with fail
  with_reducible refine (trim_rn ha).mono ?_
  rintro e w' ⟨ma, rfl, rfl, ca'⟩
  go_wp2_with fail
  with_reducible refine (trim_rn hb).mono ?_
  rintro e w' ⟨mb, rfl, rfl, cb'⟩
  rename_i w
  have la := ca'.len
  have lb := cb'.len
  have hb1 : 0 < mb := by
    rcases Nat.eq_zero_or_pos mb with h | h
    · have : N = 0 := by have := dig_val N; rw [List.eq_nil_of_length_eq_zero (lb.symm.trans h)] at this; simp [val] at this; omega
      omega
    · exact h
  have hbz : ((mb : Int) == 0) = false := by rw [beq_eq_false_iff_ne]; omega
  have hma : ma ≤ 8796093022208 := by omega
  have hmb : mb ≤ 8796093022208 := by omega
  have LA := Lib.hid la
  have LB := Lib.hid lb
  clear ha hb la lb hla hlb
  go_wp2_with fail
  with_reducible refine (nat_Cmp _ _ _ _ _ _ _ _ _ ca'.rn cb'.rn).mono ?_
  rintro e w' ⟨rfl, q, rfl⟩
  have CA := Lib.hid (ca'.below (pw_below_drewN (Below.refl _ w) q))
  have CB := Lib.hid (cb'.below (pw_below_drewN (Below.refl _ w) q))
  clear ca' cb'
  by_cases hlt : M < N
  · have hs : sgnc (M : Int) N = -1 := sgnc_lt (by omega)
    have HV : M / N = 0 ∧ M % N = M := ⟨Nat.div_eq_of_lt hlt, Nat.mod_eq_of_lt hlt⟩
    have HV := Lib.hid HV
    go_wp2_with fail
    with_reducible refine (nat_Norm _ _ _ _ _ CA.out.rn (by omega)).mono ?_
    rintro e w' ⟨C, n, c, rfl, hC, hB, hO⟩
    go_wp2
    go_ret3
    exact ⟨none, 0, 0, C, n, c, rfl, by rw [HV.out.1]; exact ⟨Nat.le_refl _, by rw [dig_zero]; exact ReadsInt.none⟩, by rw [HV.out.2]; exact hC, below_drewN_right hB, (fun ad e => by cases e), own_fresh hO⟩
  · have hs : ¬ sgnc (M : Int) N < 0 := by unfold sgnc; rw [if_neg (by omega)]; split <;> omega
    obtain ⟨k, rfl⟩ : ∃ k, mb = k + 1 := ⟨mb - 1, by omega⟩
    rcases Nat.eq_zero_or_pos k with h0 | h0
    · subst h0
      obtain ⟨bd, e0, hx⟩ := CB.out.2.at_ 0 (by omega) (by omega)
      subst e0
      simp only [Int.toNat_zero] at hx
      rw [show rd (dig N) 0 = at_ (dig N) 0 from rfl] at hx
      have hx' : (w.drewN q).cell? bd = some (.int .u32 (at_ (dig N) 0)) := by simpa [Addr.add] using hx
      have hv0 : at_ (dig N) 0 = N := by
        have := dig_val N
        have hl : (dig N).length = 1 := LB.out.symm
        obtain ⟨x, hx⟩ := List.length_eq_one_iff.1 hl
        rw [hx] at this ⊢
        simp [val] at this
        simpa [at_] using this
      have bN := (dig_lim N).at_ 0
      rw [hv0] at hx hx' bN
      clear hv0
      go_wp2_with fail
      with_reducible refine (nat_short _ _ _ _ _ _ CA.out.rn (by omega) bN.2 (by omega)).mono ?_
      rintro e w1 ⟨C, n, c, rfl, hC, hB, hF⟩
      have r0 : 0 ≤ (M : Int) % N := Int.emod_nonneg _ (by omega)
      have r1 : (M : Int) % N < N := Int.emod_lt_of_pos _ (by omega)
      obtain ⟨r, hr⟩ : ∃ r, (M : Int) % N = r := ⟨_, rfl⟩
      rw [hr] at r0 r1 ⊢
      have ho : (w1.alloc (.cells #[.int .u32 r] 93)).ownsRow w1.heap.size 93 1 (.slice (some ⟨w1.heap.size, 0, none⟩) 1 1) 1 (nums .u32 [r]) := own_lit w1 w1.heap.size 93 .u32 [r] (Nat.le_refl _) (by simp)
      obtain ⟨A', c', he, hrd⟩ := own_reads ho
      cases he
      have HR := Lib.hid hr
      have HC := Lib.hid hC
      have HB := Lib.hid hB
      clear hr hC hB ho
      go_wp2_with fail
      with_reducible refine (cut_ok (Nat.le_refl _) hrd (Lim.one r0 (by omega)) (N := M % N) (by rw [val_one, ← HR.out, Int.natCast_emod])).mono ?_
      rintro e w' ⟨m, rfl, rfl, hC2⟩
      go_wp2
      go_ret3
      exact ⟨_, _, _, _, _, _, rfl, HC.out.below ((Below.refl _ _).alloc (Nat.le_refl _) _), hC2, (below_drewN_right HB.out).alloc (by have := (below_drewN_right HB.out).size; omega) _, hF, fun ad e => by cases e; exact (below_drewN_right HB.out).size⟩
    · have hdl : k + 1 ≤ ma := by rw [LA.out, LB.out]; exact lim_mono (by omega)
      obtain ⟨d, rfl⟩ : ∃ d, ma = d + (k + 1) := ⟨ma - (k + 1), by omega⟩
      clear hdl
      obtain ⟨bd, e0, hx⟩ := CB.out.2.at_ k (by omega) (by omega)
      subst e0
      simp only [Int.toNat_natCast, rd_at] at hx
      have bN := (dig_lim N).at_ k
      have hlz : nbits (at_ (dig N) k).toNat ≤ 32 := nbits_le (by omega)
      obtain ⟨z, hz⟩ : ∃ z : Nat, z + nbits (at_ (dig N) k).toNat = 32 := ⟨32 - nbits (at_ (dig N) k).toNat, by omega⟩
      have hbt := nbits_top (n := N) (k := k) LB.out.symm
      have hz32 : z < 32 := by
        have : 1 ≤ nbits (at_ (dig N) k).toNat := by
          unfold nbits
          rw [if_neg (by omega)]; omega
        omega
      have hnf := norm_fits LB.out.symm hz
      have HNF := Lib.hid hnf
      have hbl := bitLen_nbits (x := (at_ (dig N) k).toNat) (by omega)
      have k1 : ((k : Int) + 1 == 1) = false := by rw [beq_eq_false_iff_ne]; omega
      go_wp2_with fail
      with_reducible refine (Try.bits_LeadingZeros32 _ _ bN.1 (by omega)).mono ?_
      rintro e w' ⟨rfl, rfl⟩
      have hzz : (32 : Int) - ((Lib.bitLen (at_ (dig N) k).toNat : Nat) : Int) = z := by rw [hbl]; omega
      rw [hzz]
      clear hbl hzz hx bN hlz hz hbt hnf
      go_wp2_with fail
      with_reducible refine (nat_shl _ _ _ _ z _ CB.out.rn (by omega) (by omega)).mono ?_
      rintro e w1 ⟨V, nv, cv, rfl, hV, hB1, hoV⟩
      have hnv : nv = k + 1 := by rw [hV.len]; exact HNF.out.1
      subst hnv
      have CA1 := CA.out.below hB1
      have CV := Lib.hid hV
      have HB1 := Lib.hid hB1
      clear hV hB1 hoV
      go_wp2_with fail
      with_reducible refine (nat_shl _ _ _ _ z _ CA1.rn (by omega) (by omega)).mono ?_
      rintro e w2 ⟨U, nu, cu, rfl, hU, hB2, hoU⟩
      have hsf := shl_fits (M := M) (k := d + (k + 1)) LA.out.symm hz32
      have hlu : d + (k + 1) ≤ nu ∧ nu ≤ d + (k + 1) + 1 := by
        rw [hU.len]
        refine ⟨?_, lim_le (by rw [B_two]; exact_mod_cast hsf)⟩
        have h1 := lim_mono (Nat.le_mul_of_pos_right M (Nat.two_pow_pos z))
        have h2 := LA.out
        omega
      have hul : (dig (M * 2 ^ z)).length = nu := hU.len.symm
      have hu0 : ReadsInt (w2.alloc (.cells #[.int .u32 0, .int .u32 0] 93)) .u32 (some ⟨w2.heap.size, 0, none⟩) 2 [0, 0] := by
        obtain ⟨A', c', he, hrd⟩ := own_reads (own_lit w2 w2.heap.size 93 .u32 [0, 0] (Nat.le_refl _) (by simp))
        cases he
        exact hrd
      have HU := Lib.hid hul
      have HB2 := Lib.hid hB2
      have HoU := Lib.hid hoU
      have HU0 := Lib.hid hu0
      have HSF := Lib.hid hsf
      clear CA1 hU hB2 hoU hu0 hul hsf
      have mk := print_make (P := Try.prog) 29 93 .u32 4 Try.underlying29 infoU32 (by omega) (d + 1) (by omega)
      simp only [Int.natCast_add, Int.cast_ofNat_Int] at mk
      go_wp2_with (at_builtin; refine print_append_row (w0 := w1) w1.heap.size rfl (.tmp 57) (.tmp 58) 29 93 .u32 4 rfl Try.underlying29 infoU32 (by omega) (.slice U nu cu) (dig (M * 2 ^ z)) [0, 0] (some ⟨w2.heap.size, 0, none⟩) 2 2 rfl rfl (by rw [HU.out]; exact HoU.out.alloc _) HU0.out (HB2.out.alloc HB2.out.size _) (by have := HB2.out.size; simp; omega) (by rw [HU.out]; omega) (fun v1 w3 ho3 hb3 _ _ => ?_); (obtain ⟨g, cap, hv1, hg1, hg2⟩ := ho3.form (by simp)); subst hv1; have hcap := own_cap ho3; have HO3 := Lib.hid ho3; have HB3 := Lib.hid hb3; clear ho3 hb3; rw [List.length_append, HU.out] at hcap; simp only [List.length_cons, List.length_nil] at hcap; rw [List.length_append, HU.out]; simp only [List.length_cons, List.length_nil])
      have hus : ((dig (M * 2 ^ z) ++ [0, 0]).take (d + (k + 1) + 1)).length = d + k + 2 := by rw [List.length_take, List.length_append, HU.out]; simp; omega
      have hlu0 : Lim (dig (M * 2 ^ z) ++ [0, 0]) := (dig_lim _).append (Lim.cons (by omega) (by omega) (Lim.one (by omega) (by omega)))
      have hvu0 : val (dig (M * 2 ^ z) ++ [0, 0]) = ((M * 2 ^ z : Nat) : Int) := by rw [val_append, dig_val]; simp [val]
      have hvu : val ((dig (M * 2 ^ z) ++ [0, 0]).take (d + (k + 1) + 1)) = ((M * 2 ^ z : Nat) : Int) := by
        rw [val_take_mod hlu0 (by rw [List.length_append, HU.out]; simp; omega) (by rw [hvu0, B_two]; exact_mod_cast HSF.out), hvu0]
      have hou : w3.ownsRow w1.heap.size 93 1 (.slice (some ⟨g, 0, none⟩) (d + k + 2) cap) (d + k + 2) (nums .u32 ((dig (M * 2 ^ z) ++ [0, 0]).take (d + (k + 1) + 1))) := by
        have := HO3.out
        rw [List.length_append, HU.out] at this
        have := own_take this (m := d + (k + 1) + 1) (by simp; omega)
        rw [Nat.mul_one] at this
        rw [show d + k + 2 = d + (k + 1) + 1 from by omega]
        simpa [nums, List.map_take] using this
      have hst := divI_start (D := ((N * 2 ^ z : Nat) : Int)) (m := d + 1) hus (hlu0.take _) hvu (by have := div_room (M := M) (z := z) LB.out.symm LA.out.symm (by omega); rwa [show d + (k + 1) - (k + 1) + 1 = d + 1 from by omega] at this)
      have HST := Lib.hid hst
      have HOU := Lib.hid hou
      clear hus hlu0 hvu0 hvu hst hou
      go_loopw [13] (fun i wr => ∃ (kk : Nat) (us qs : List Int), kk ≤ d + 1 ∧ i = .int .i64 ((kk : Int) - 1) ∧ divI us qs ((M * 2 ^ z : Nat) : Int) ((N * 2 ^ z : Nat) : Int) (d + k + 2) (d + 1) kk ∧
        wr.ownsRow w1.heap.size 93 1 (.slice (some ⟨g, 0, none⟩) (d + k + 2) cap) (d + k + 2) (nums .u32 us) ∧
        wr.ownsRow w3.heap.size 93 1 (.slice (some ⟨w3.heap.size, 0, none⟩) (d + 1) (d + 1)) (d + 1) (nums .u32 qs) ∧ Below w1.heap.size w1 wr) (fun i _ => (intOf i + 1).toNat)
      case atStart => exact ⟨d + 1, _, _, Nat.le_refl _, by go_num, HST.out, HOU.out.alloc _, own_made w3 _ _ _ _ (Nat.le_refl _) (by omega), HB3.out.alloc HB3.out.size _⟩
      case round =>
        clear HST HOU HO3 HoU HU0
        obtain ⟨kk, us, qs, hkk, rfl, hD, hOu, hOq, hBl⟩ := hrel
        have HD := Lib.hid hD
        have HOu := Lib.hid hOu
        have HOq := Lib.hid hOq
        have HBl := Lib.hid hBl
        clear hD hOu hOq hBl
        rcases Nat.eq_zero_or_pos kk with h0 | h0
        · subst h0
          go_wp2_with fail
          have hD0 : (0 : Int) < ((N * 2 ^ z : Nat) : Int) := by exact_mod_cast Nat.mul_pos hN (Nat.two_pow_pos z)
          have he := divI_end HD.out hD0
          rw [← Int.natCast_ediv, ← Int.natCast_emod, Nat.mul_div_mul_right _ _ (Nat.two_pow_pos z), Nat.mul_mod_mul_right] at he
          have HE := Lib.hid he
          clear he hD0
          obtain ⟨A', c', he, hrd⟩ := own_reads HOq.out
          cases he
          with_reducible refine (cut_ok (Nat.le_refl _) hrd HD.out.qlim (N := M / N) HE.out.1).mono ?_
          rintro e w' ⟨m, rfl, rfl, hC⟩
          have HC := Lib.hid hC
          clear hC hrd
          go_wp2_with fail
          obtain ⟨A', c', he, hrd⟩ := own_reads HOu.out
          cases he
          have hrd : ReadsInt _ .u32 (some ⟨g, 0, none⟩) (d + (k + 1) + 1) us := hrd
          with_reducible refine (cut_ok (c := cap) (by omega) hrd HD.out.ulim (N := M % N * 2 ^ z) HE.out.2).mono ?_
          rintro e w' ⟨m2, rfl, rfl, hC2⟩
          have hm2 : m2 ≤ d + k + 2 := by
            rw [hC2.len]
            exact lim_le (by rw [← HD.out.ulen, ← HE.out.2]; exact val_lt HD.out.ulim)
          go_wp2_with fail
          with_reducible refine (nat_shr _ _ _ _ z _ hC2.rn (by omega) (by omega)).mono ?_
          rintro e w' ⟨C2, n2, c2, rfl, hC3, hB3, hF3⟩
          rw [Nat.mul_div_cancel _ (Nat.two_pow_pos z)] at hC3
          have HC3 := Lib.hid hC3
          have HB4 := Lib.hid hB3
          clear hC2 hC3 hB3
          go_wp2
          go_ret3
          exact ⟨_, _, _, _, _, _, rfl, HC.out.below HB4.out, HC3.out, below_drewN_right (below_then (below_then HB1.out HB1.out.size HBl.out) (by have h1 := HB1.out.size; have h2 := HBl.out.size; omega) HB4.out), fun ad e => by cases e; exact Nat.le_trans (below_drewN_right HB1.out).size HB3.out.size, fun ad e => Nat.le_trans (below_drewN_right HB1.out).size (Nat.le_trans HBl.out.size (hF3 ad e))⟩
        · obtain ⟨j, rfl⟩ : ∃ j, kk = j + 1 := ⟨kk - 1, by omega⟩
          have e1 : ((j + 1 : Nat) : Int) - 1 = j := by omega
          rw [e1]
          clear e1
          go_wp2_with fail
          rw [show j + (k + 1) + 1 - j = k + 2 from by omega]
          have hsp : us = us.take j ++ (us.drop j).take (k + 2) ++ (us.drop j).drop (k + 2) := by rw [List.append_assoc, List.take_append_drop, List.take_append_drop]
          obtain ⟨pre, hpre⟩ : ∃ l, us.take j = l := ⟨_, rfl⟩
          obtain ⟨sub, hsub⟩ : ∃ l, (us.drop j).take (k + 2) = l := ⟨_, rfl⟩
          obtain ⟨post, hpost⟩ : ∃ l, (us.drop j).drop (k + 2) = l := ⟨_, rfl⟩
          rw [hpre, hsub, hpost] at hsp
          have hlp : pre.length = j := by rw [← hpre, List.length_take, HD.out.ulen]; omega
          have hls : sub.length = k + 2 := by rw [← hsub, List.length_take, List.length_drop, HD.out.ulen]; omega
          clear hpre hsub hpost
          subst hsp
          have hDlt : ((N * 2 ^ z : Nat) : Int) < B (k + 1) := by rw [B_two]; exact_mod_cast HNF.out.2
          have hD0 : (0 : Int) < ((N * 2 ^ z : Nat) : Int) := by exact_mod_cast Nat.mul_pos hN (Nat.two_pow_pos z)
          obtain ⟨p1, p2, p3, p4, p5⟩ := divI_part HD.out hlp hls hDlt
          have CV' := CV.out.below HBl.out
          have hgl := own_lt HOu.out g rfl
          have hvb : ∀ ad, V = some ad → ad.block ≠ g := by
            intro ad e
            obtain ⟨ad', e', hc⟩ := CV.out.2.at_ 0 (by omega) (by omega)
            rw [e] at e'
            cases e'
            have := World.block_lt_of_cell? w1 _ hc
            rw [add_block] at this
            omega
          with_reducible refine (nat_digit g j w1.heap.size (d + k + 2) cap (cap - j) nb cv k (N * 2 ^ z) V pre sub post _ HOu.out hlp hls (HD.out.ulim.left.right) CV' hgl hvb p2 (by omega)).mono ?_
          rintro e w4 ⟨sub', rfl, ho4, hl4, hli4, hv4, hg4⟩
          have hs := divI_step HD.out hlp hls hDlt hD0 (by omega) hl4 hli4 hv4
          have HS := Lib.hid hs
          have HO4 := Lib.hid ho4
          have hoq := own_other HOq.out hg4 (.inr (by simp only [Value.ownBlock]; intro h; injection h with h; omega))
          have hb4 := HBl.out.grown hg4 (by have := HBl.out.size; omega) (fun q hq => by injection hq with hq; omega)
          have HB4 := Lib.hid hb4
          have hd0 : 0 ≤ val sub / ((N * 2 ^ z : Nat) : Int) := Int.ediv_nonneg p5 (by omega)
          obtain ⟨dg, hdg⟩ : ∃ dg, val sub / ((N * 2 ^ z : Nat) : Int) = dg := ⟨_, rfl⟩
          rw [hdg] at HS ⊢
          obtain ⟨ho1, ho2⟩ := own_at hoq j (by omega) (by omega)
          have hst := (own_store hoq (j : Int) dg)
          have HOU4 := Lib.hid (own_other HO4.out hst.2 (.inr (by simp only [Value.ownBlock]; intro h; injection h with h; omega)))
          simp only [Int.toNat_natCast, rd_at] at ho1 ho2 hst HOU4
          have HST := Lib.hid hst.1
          clear hst hs ho4 hoq hb4 hg4 hv4 hli4 p1 p2 p3 p4 p5 hdg hd0 hDlt hD0 CV' hvb
          go_wp2
          go_roundw
          case rel => exact ⟨j, _, _, by omega, by go_num, HS.out, HOU4.out, HST.out, HB4.out.setCell (by have := HB3.out.size; exact this) _⟩
          case measure => simp [intOf] <;> omega
theorem nat_Div (A B : Option Addr) (na nb ca cb M N : Nat) (w : World) (ha : RN w A na ca M) (hb : RN w B nb cb N) (hN : 0 < N) (hsa : na ≤ 8796093022208) (hsb : nb ≤ 8796093022208) :
    Calls Try.prog 162 #[.slice A na ca, .slice B nb cb] w fun e w' => ∃ C1 n1 c1 C2 n2 c2, e = .returned (.tuple #[.slice C1 n1 c1, .slice C2 n2 c2, .int .i64 0]) ∧ CN w' C1 n1 c1 (M / N) ∧ CN w' C2 n2 c2 (M % N) ∧ Below w.heap.size w w' :=
  (nat_DivF A B na nb ca cb M N w ha hb hN hsa hsb).mono fun _ _ ⟨C1, n1, c1, C2, n2, c2, h1, h2, h3, h4, _⟩ => ⟨C1, n1, c1, C2, n2, c2, h1, h2, h3, h4⟩
end Go.Proofs.Ytaagioghkicdkaa
