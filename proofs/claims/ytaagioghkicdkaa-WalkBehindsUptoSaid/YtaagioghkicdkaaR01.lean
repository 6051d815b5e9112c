/- Contracts of the document's limb functions. -/
import Derived.Test.YtaagioghkicdkaaTy
set_option linter.unusedVariables false
set_option linter.unusedSimpArgs false
namespace Go.Proofs.Ytaagioghkicdkaa
open Go.RowKit Go.Proofs.YtaagioghkicdkaaW.PrintWords Mt
set_option maxRecDepth 100000 in
theorem r01_most {u : World} {a b : Int}    : Fn Try.prog 153 #[.int .i64 a, .int .i64 b] u (Is (.int .i64 (max a b))) := by
  refine fn_of (args := [_, _]) Try.func153 rfl (by show 2 ≤ 10; decide) ?_
  intro w0 hs0
  have hG0 := Gr.refl w0.heap.size u
  refine tri_seq ?_
  refine tri_reg mixed [.con (.int .i64 0)] [0, 1] [] [] ?_ (by decide) ?_ ?_ _ _
  · kernel_rfl
  · exact ⟨pu, trivial⟩
  rintro p1 x1 u1 hg1 -
  have hG1 := hG0.trans hg1
  refine next (g' := [(0, .int .i64 a), (1, .int .i64 b)]) (bx' := []) (rw' := []) (by kernel_rfl) (by kernel_rfl) (by kernel_rfl) ?_
  refine tri_seq ?_
  refine tri_seq ?_
  refine tri_reg mixed [.con (.int .i64 a), .con (.int .i64 b), .con (.bool (decide (b < a)))] [0, 1, 7] [] [] ?_ (by decide) ?_ ?_ _ _
  · kernel_rfl
  · exact ⟨pu, pu, pu, trivial⟩
  rintro p2 x2 u2 hg2 -
  have hG2 := hG1.trans hg2
  refine next (g' := [(0, .int .i64 a), (1, .int .i64 b), (7, .bool (decide (b < a)))]) (bx' := []) (rw' := []) (by kernel_rfl) (by kernel_rfl) (by kernel_rfl) ?_
  refine tri_cond (b := (decide (b < a))) rfl (fun hc => ?_) (fun hc => ?_)
  · replace hc := of_decide_eq_true hc
    refine tri_seq ?_
    refine tri_reg mixed [.con (.int .i64 a), .con (.int .i64 a)] [4] [] [] ?_ (by decide) ?_ ?_ _ _
    · kernel_rfl
    · exact ⟨pu, pu, trivial⟩
    rintro p3 x3 u3 hg3 -
    have hG3 := hG2.trans hg3
    refine next (g' := [(4, .int .i64 a)]) (bx' := []) (rw' := []) (by kernel_rfl) (by kernel_rfl) (by kernel_rfl) ?_
    exact tri_ret (ret1 rfl (.int .i64 a) rfl hG3 (by show Value.int .i64 _ = _; congr 1; omega))
  · replace hc := of_decide_eq_false hc
    refine tri_skip ?_
    refine next rfl rfl rfl ?_
    refine tri_seq ?_
    refine tri_reg mixed [.con (.int .i64 b), .con (.int .i64 b)] [4] [] [] ?_ (by decide) ?_ ?_ _ _
    · kernel_rfl
    · exact ⟨pu, pu, trivial⟩
    rintro p4 x4 u4 hg4 -
    have hG4 := hG2.trans hg4
    refine next (g' := [(4, .int .i64 b)]) (bx' := []) (rw' := []) (by kernel_rfl) (by kernel_rfl) (by kernel_rfl) ?_
    exact tri_ret (ret1 rfl (.int .i64 b) rfl hG4 (by show Value.int .i64 _ = _; congr 1; omega))

set_option maxRecDepth 100000 in
theorem r01_limb {u : World} {xs : List Int} {k : Nat} {v0 : Value} (h0 : Sl dL u v0 xs) (hl : Lim xs) : Fn Try.prog 154 #[v0, .int .i64 (k : Int)] u (Is (.int .u64 (at_ xs k))) := by
  obtain ⟨A0, n0, c0, rfl, l0, b0, M0⟩ : ∃ A n c, v0 = .slice A n c ∧ xs.length = n ∧ n ≤ c ∧ n ≤ 9223372036854775807 := by obtain ⟨A, n, c, e, a, b, m, _⟩ := h0; exact ⟨A, n, c, e, a, b, m⟩
  have hb := hl.at_ k
  refine fn_of (args := [_, _]) Try.func154 rfl (by show 2 ≤ 14; decide) ?_
  intro w0 hs0
  have hG0 := Gr.refl w0.heap.size u
  refine tri_seq ?_
  refine tri_reg mixed [.con (.int .u64 0)] [0, 1] [] [] ?_ (by decide) ?_ ?_ _ _
  · kernel_rfl
  · exact ⟨pu, trivial⟩
  rintro p1 x1 u1 hg1 -
  replace h0 := h0.sub dLk hg1.1
  have hG1 := hG0.trans hg1
  refine next (g' := [(0, .slice A0 n0 c0), (1, .int .i64 (k : Int))]) (bx' := []) (rw' := []) (by kernel_rfl) (by kernel_rfl) (by kernel_rfl) ?_
  refine tri_seq ?_
  refine tri_seq ?_
  refine tri_reg mixed [.con (.int .i64 (k : Int)), .con (.slice A0 n0 c0), .con (.int .i64 (n0 : Int)), .con (.bool (decide ((k : Int) < (n0 : Int))))] [0, 1, 8] [] [] ?_ (by decide) ?_ ?_ _ _
  · kernel_rfl
  · exact ⟨pu, pu, pu, pu, trivial⟩
  rintro p2 x2 u2 hg2 -
  replace h0 := h0.sub dLk hg2.1
  have hG2 := hG1.trans hg2
  refine next (g' := [(0, .slice A0 n0 c0), (1, .int .i64 (k : Int)), (8, .bool (decide ((k : Int) < (n0 : Int))))]) (bx' := []) (rw' := []) (by kernel_rfl) (by kernel_rfl) (by kernel_rfl) ?_
  refine tri_cond (b := (decide ((k : Int) < (n0 : Int)))) rfl (fun hc => ?_) (fun hc => ?_)
  · replace hc := of_decide_eq_true hc
    refine tri_seq ?_
    obtain ⟨ad, x_, cs_, hA, hx_, hcs_, hcell⟩ := h0.at dLk k (by omega)
    have hx_ : x_ = at_ xs k := by unfold at_; rw [List.getD_eq_getElem?_getD, hx_]; rfl
    subst hx_; rw [show cs_ = _ from hcs_] at hcell; clear hcs_
    refine tri_reg mixed [.con (.slice A0 n0 c0), .con (.int .i64 (k : Int)), .con (.pointer (some (ad.add (((k : Int) : Int).toNat * 1)))), .con (.int .u32 (at_ xs k)), .con (.int .u64 (at_ xs k)), .con (.int .u64 (at_ xs k))] [4] [] [] ?_ (by decide) ?_ ?_ _ _
    · kernel_rfl
    · exact ⟨pu, pu, ix (kk := .i64) (n := n0) (c := c0) sl29 hA (by omega) (by omega), li ty93 (vs := [.int .u32 (at_ xs k)]) hcell rfl, pw (wu64 (n := (at_ xs k)) (by omega)), pu, trivial⟩
    rintro p3 x3 u3 hg3 -
    replace h0 := h0.sub dLk hg3.1
    have hG3 := hG2.trans hg3
    refine next (g' := [(4, .int .u64 (at_ xs k))]) (bx' := []) (rw' := []) (by kernel_rfl) (by kernel_rfl) (by kernel_rfl) ?_
    exact tri_ret (ret1 rfl (.int .u64 (at_ xs k)) rfl hG3 (by show Value.int .u64 _ = _; first | rfl | (congr 1; rw [at_ge (by omega)])))
  · replace hc := of_decide_eq_false hc
    refine tri_skip ?_
    refine next rfl rfl rfl ?_
    refine tri_seq ?_
    refine tri_reg mixed [.con (.int .u64 0)] [4] [] [] ?_ (by decide) ?_ ?_ _ _
    · kernel_rfl
    · exact ⟨pu, trivial⟩
    rintro p4 x4 u4 hg4 -
    replace h0 := h0.sub dLk hg4.1
    have hG4 := hG2.trans hg4
    refine next (g' := [(4, .int .u64 0)]) (bx' := []) (rw' := []) (by kernel_rfl) (by kernel_rfl) (by kernel_rfl) ?_
    exact tri_ret (ret1 rfl (.int .u64 0) rfl hG4 (by show Value.int .u64 _ = _; first | rfl | (congr 1; rw [at_ge (by omega)])))

set_option maxRecDepth 100000 in
theorem r01_Norm {u : World} {xs : List Int} {N : Nat} {v0 : Value} (h0 : Sl dL u v0 xs) (hl : Lim xs) (hv : val xs = N) (hs : xs.length ≤ 35184372088831) : Fn Try.prog 110 #[v0] u (fun u r => LCv u r N) := by
  obtain ⟨A0, n0, c0, rfl, l0, b0, M0⟩ : ∃ A n c, v0 = .slice A n c ∧ xs.length = n ∧ n ≤ c ∧ n ≤ 9223372036854775807 := by obtain ⟨A, n, c, e, a, b, m, _⟩ := h0; exact ⟨A, n, c, e, a, b, m⟩
  have htl := tl_le xs n0
  refine fn_of (args := [_]) Try.func110 rfl (by show 1 ≤ 33; decide) ?_
  intro w0 hs0
  have hG0 := Gr.refl w0.heap.size u
  refine tri_seq ?_
  refine tri_reg mixed [.con (.slice none 0 0)] [0] [] [] ?_ (by decide) ?_ ?_ _ _
  · kernel_rfl
  · exact ⟨pu, trivial⟩
  rintro p1 x1 u1 hg1 -
  replace h0 := h0.sub dLk hg1.1
  have hG1 := hG0.trans hg1
  refine next (g' := [(0, .slice A0 n0 c0)]) (bx' := []) (rw' := []) (by kernel_rfl) (by kernel_rfl) (by kernel_rfl) ?_
  refine tri_seq ?_
  refine tri_reg mixed [.con (.slice A0 n0 c0), .con (.int .i64 (n0 : Int)), .con (.int .i64 (n0 : Int))] [0, 3] [] [] ?_ (by decide) ?_ ?_ _ _
  · kernel_rfl
  · exact ⟨pu, pu, pu, trivial⟩
  rintro p2 x2 u2 hg2 -
  replace h0 := h0.sub dLk hg2.1
  have hG2 := hG1.trans hg2
  refine next (g' := [(0, .slice A0 n0 c0), (3, .int .i64 (n0 : Int))]) (bx' := []) (rw' := []) (by kernel_rfl) (by kernel_rfl) (by kernel_rfl) ?_
  refine tri_join (fun g_ bx_ rw_ u_ => (Gr w0.heap.size u2 u_ ∧ g_ = [(0, .slice A0 n0 c0), (3, .int .i64 (tl xs n0 : Int))] ∧ bx_ = [] ∧ rw_ = [])) ?_ ?_
  · refine tri_block ?_
    refine tri_loop (fun m_ g_ bx_ rw_ u_ => ∃ (k : Nat), (m_ = k ∧ Gr w0.heap.size u2 u_ ∧ k ≤ n0 ∧ tl xs k = tl xs n0 ∧ g_ = [(0, .slice A0 n0 c0), (3, .int .i64 (k : Int))] ∧ bx_ = [] ∧ rw_ = [])) (n0) ⟨n0, rfl, Gr.refl _ _, Nat.le_refl _, rfl, rfl, rfl, rfl⟩ ?_
    rintro m_ g_ bx_ rw_ u4 ⟨k, hm_, hg4, hk, ht, rfl, rfl, rfl⟩
    replace h0 := h0.sub dLk hg4.1
    have hG4 := hG2.trans hg4
    rcases Nat.eq_zero_or_pos k with hk0 | hk0
    · subst hk0
      refine tri_seq ?_
      refine tri_seq ?_
      refine tri_reg mixed [.con (.int .i64 ((0 : Nat) : Int)), .con (.bool false), .con (.bool false), .con undef, .con undef, .con undef, .con undef, .con undef, .con undef, .con (.bool false)] [0, 3, 17] [] [] ?_ (by decide) ?_ ?_ _ _
      · kernel_rfl
      · exact ⟨pu, pw (bf (p := 0 < ((0 : Nat) : Int)) (by omega)), pu, trivial, trivial, trivial, trivial, trivial, trivial, pu, trivial⟩
      rintro p5 x5 u5 hg5 -
      replace h0 := h0.sub dLk hg5.1
      have hG5 := hG4.trans hg5
      refine next (g' := [(0, .slice A0 n0 c0), (3, .int .i64 ((0 : Nat) : Int)), (17, .bool false)]) (bx' := []) (rw' := []) (by kernel_rfl) (by kernel_rfl) (by kernel_rfl) ?_
      refine tri_false rfl ?_
      refine tri_exit ?_
      repeat refine pn_then (by simp) ?_
      refine pn_ex ?_
      exact PN.sub (g' := [(0, .slice A0 n0 c0), (3, .int .i64 (tl xs n0 : Int))]) (bx' := []) (rw' := []) ⟨rfl, (by first | rfl | (rw [← ht]; first | rfl | (rw [tl, if_neg hc]; rfl))), trivial⟩ rfl rfl (pn_join ⟨(hg4).trans hg5, rfl, rfl, rfl⟩)
    · obtain ⟨m, rfl⟩ : ∃ m, k = m + 1 := ⟨k - 1, by omega⟩
      obtain ⟨ad, x_, cs_, hA, hx_, hcs_, hcell⟩ := h0.at dLk m (by omega)
      have hx_ : x_ = at_ xs m := by unfold at_; rw [List.getD_eq_getElem?_getD, hx_]; rfl
      subst hx_; rw [show cs_ = _ from hcs_] at hcell; clear hcs_
      refine tri_seq ?_
      refine tri_seq ?_
      refine tri_reg mixed [.con (.int .i64 ((m + 1 : Nat) : Int)), .con (.bool true), .con (.bool true), .con (.slice A0 n0 c0), .con (.int .i64 ((m + 1 : Nat) : Int)), .con (.int .i64 (m : Int)), .con (.pointer (some (ad.add (((m : Int) : Int).toNat * 1)))), .con (.int .u32 (at_ xs m)), .con (.bool ((at_ xs m) == 0)), .con (.bool ((at_ xs m) == 0))] [0, 3, 17] [] [] ?_ (by decide) ?_ ?_ _ _
      · kernel_rfl
      · exact ⟨pu, pw (bt (p := 0 < ((m + 1 : Nat) : Int)) (by omega)), pu, pu, pu, pw (w64 (n := ((m + 1 : Nat) : Int) - 1) (by omega)), ix (kk := .i64) (n := n0) (c := c0) sl29 hA (by omega) (by omega), li ty93 (vs := [.int .u32 (at_ xs m)]) hcell rfl, pu, pu, trivial⟩
      rintro p6 x6 u6 hg6 -
      replace h0 := h0.sub dLk hg6.1
      have hG6 := hG4.trans hg6
      refine next (g' := [(0, .slice A0 n0 c0), (3, .int .i64 ((m + 1 : Nat) : Int)), (17, .bool ((at_ xs m) == 0))]) (bx' := []) (rw' := []) (by kernel_rfl) (by kernel_rfl) (by kernel_rfl) ?_
      refine tri_cond (b := ((at_ xs m) == 0)) rfl (fun hc => ?_) (fun hc => ?_)
      · replace hc := eq_of_beq hc
        refine tri_skip ?_
        refine next rfl rfl rfl ?_
        refine tri_block ?_
        refine tri_reg mixed [.con (.int .i64 ((m + 1 : Nat) : Int)), .con (.int .i64 (m : Int)), .con (.int .i64 (m : Int))] [0, 3] [] [] ?_ (by decide) ?_ ?_ _ _
        · kernel_rfl
        · exact ⟨pu, pw (w64 (n := ((m + 1 : Nat) : Int) - 1) (by omega)), pu, trivial⟩
        rintro p7 x7 u7 hg7 -
        replace h0 := h0.sub dLk hg7.1
        have hG7 := hG6.trans hg7
        refine pn_blk ?_
        exact PN.sub (g' := [(0, .slice A0 n0 c0), (3, .int .i64 (m : Int))]) (bx' := []) (rw' := []) ⟨rfl, rfl, trivial⟩ rfl rfl (pn_at (m' := m) (by omega) ⟨m, rfl, ((hg4).trans hg6).trans hg7, by omega, by rw [← ht]; simp [tl, hc], rfl, rfl, rfl⟩)
      · replace hc := ne_of_beq_false hc
        refine tri_exit ?_
        repeat refine pn_then (by simp) ?_
        refine pn_ex ?_
        exact PN.sub (g' := [(0, .slice A0 n0 c0), (3, .int .i64 (tl xs n0 : Int))]) (bx' := []) (rw' := []) ⟨rfl, (by first | rfl | (rw [← ht]; first | rfl | (rw [tl, if_neg hc]; rfl))), trivial⟩ rfl rfl (pn_join ⟨(hg4).trans hg6, rfl, rfl, rfl⟩)
  rintro g_ bx_ rw_ u3 ⟨hg3, rfl, rfl, rfl⟩
  replace h0 := h0.sub dLk hg3.1
  have hG3 := hG2.trans hg3
  refine tri_seq ?_
  refine tri_reg mixed [.con (.slice none 0 0)] [0, 3, 4] [] [] ?_ (by decide) ?_ ?_ _ _
  · kernel_rfl
  · exact ⟨pu, trivial⟩
  rintro p8 x8 u8 hg8 -
  replace h0 := h0.sub dLk hg8.1
  have hG8 := hG3.trans hg8
  refine next (g' := [(0, .slice A0 n0 c0), (3, .int .i64 (tl xs n0 : Int)), (4, .slice none 0 0)]) (bx' := []) (rw' := []) (by kernel_rfl) (by kernel_rfl) (by kernel_rfl) ?_
  refine tri_seq ?_
  refine tri_seq ?_
  refine tri_nil dLk 93 ?_
  refine tri_reg mixed [.con (.int .i64 0)] [0, 3, 4, 5] [] [0] ?_ (by decide) ?_ ?_ _ _
  · kernel_rfl
  · exact ⟨pu, trivial⟩
  rintro p9 x9 u9 hg9 -
  replace h0 := h0.sub dLk hg9.1
  have hG9 := hG8.trans hg9
  refine next (g' := [(0, .slice A0 n0 c0), (3, .int .i64 (tl xs n0 : Int)), (4, .slice none 0 0), (5, .int .i64 0)]) (bx' := []) (rw' := [rowE dLk (.slice none 0 0) 93 []]) (by kernel_rfl) (by kernel_rfl) (by kernel_rfl) ?_
  refine tri_block ?_
  refine tri_loop (fun m_ g_ bx_ rw_ u_ => ∃ (k : Nat) (v : Value), (m_ = tl xs n0 - k ∧ Gr w0.heap.size u9 u_ ∧ k ≤ tl xs n0 ∧ g_ = [(0, .slice A0 n0 c0), (3, .int .i64 (tl xs n0 : Int)), (4, v), (5, .int .i64 (k : Int))] ∧ bx_ = [] ∧ rw_ = [rowE dLk (v) 93 (xs.take k)])) (tl xs n0 - 0) ⟨0, .slice none 0 0, rfl, Gr.refl _ _, Nat.zero_le _, rfl, rfl, rfl⟩ ?_
  rintro m_ g_ bx_ rw_ u10 ⟨k, v, hm_, hg10, hk, rfl, rfl, rfl⟩
  replace h0 := h0.sub dLk hg10.1
  have hG10 := hG9.trans hg10
  refine tri_seq ?_
  refine tri_seq ?_
  refine tri_reg mixed [.con (.int .i64 (k : Int)), .con (.int .i64 (tl xs n0 : Int)), .con (.bool (decide ((k : Int) < (tl xs n0 : Int))))] [0, 3, 4, 5, 22] [] [0] ?_ (by decide) ?_ ?_ _ _
  · kernel_rfl
  · exact ⟨pu, pu, pu, trivial⟩
  rintro p11 x11 u11 hg11 -
  replace h0 := h0.sub dLk hg11.1
  have hG11 := hG10.trans hg11
  refine next (g' := [(0, .slice A0 n0 c0), (3, .int .i64 (tl xs n0 : Int)), (4, v), (5, .int .i64 (k : Int)), (22, .bool (decide ((k : Int) < (tl xs n0 : Int))))]) (bx' := []) (rw' := [rowE dLk (v) 93 (xs.take k)]) (by kernel_rfl) (by kernel_rfl) (by kernel_rfl) ?_
  refine tri_cond (b := (decide ((k : Int) < (tl xs n0 : Int)))) rfl (fun hc => ?_) (fun hc => ?_)
  · replace hc := of_decide_eq_true hc
    refine tri_skip ?_
    refine next rfl rfl rfl ?_
    refine tri_seq ?_
    refine tri_block ?_
    obtain ⟨ad, x_, cs_, hA, hx_, hcs_, hcell⟩ := h0.at dLk k (by omega)
    have hx_ : x_ = at_ xs k := by unfold at_; rw [List.getD_eq_getElem?_getD, hx_]; rfl
    subst hx_; rw [show cs_ = _ from hcs_] at hcell; clear hcs_
    refine tri_reg mixed [.con (v), .con (.slice A0 n0 c0), .con (.int .i64 (k : Int)), .con (.pointer (some (ad.add (((k : Int) : Int).toNat * 1)))), .con (.int .u32 (at_ xs k)), .opq (fun u r => Sl dL u r [(at_ xs k)]), .rop 0 (fun v => rowE dLk v 93 ((xs.take k) ++ [(at_ xs k)])), .cpy 6] [0, 3, 4, 5] [] [0] ?_ (by decide) ?_ ?_ _ _
    · kernel_rfl
    · exact ⟨pu, pu, pu, ix (kk := .i64) (n := n0) (c := c0) sl29 hA (by omega) (by omega), li ty93 (vs := [.int .u32 (at_ xs k)]) hcell rfl, bsL sl29, ap (hd := dLk) (bytes := 4) 0 5 sl29 (fun _ => rfl) rfl (by simp) (by simp only [List.length_take, List.length_cons, List.length_nil]; omega) (by decide), cp, trivial⟩
    rintro p12 x12 u12 hg12 ⟨q5, -⟩
    replace h0 := h0.sub dLk hg12.1
    have hG12 := hG11.trans hg12
    refine pn_blk ?_
    refine next (g' := [(0, .slice A0 n0 c0), (3, .int .i64 (tl xs n0 : Int)), (4, x12 6), (5, .int .i64 (k : Int))]) (bx' := []) (rw' := [rowE dLk (x12 6) 93 ((xs.take k) ++ [(at_ xs k)])]) (by kernel_rfl) (by kernel_rfl) (by kernel_rfl) ?_
    refine tri_reg mixed [.con (.int .i64 (k : Int)), .con (.int .i64 ((k : Int) + 1)), .con (.int .i64 ((k : Int) + 1))] [0, 3, 4, 5] [] [0] ?_ (by decide) ?_ ?_ _ _
    · kernel_rfl
    · exact ⟨pu, pw (w64 (n := (k : Int) + 1) (by omega)), pu, trivial⟩
    rintro p13 x13 u13 hg13 -
    replace h0 := h0.sub dLk hg13.1
    have hG13 := hG12.trans hg13
    exact PN.sub (g' := [(0, .slice A0 n0 c0), (3, .int .i64 (tl xs n0 : Int)), (4, (x12 6)), (5, .int .i64 ((k + 1) : Int))]) (bx' := []) (rw' := [rowE dLk ((x12 6)) 93 (xs.take (k + 1))]) ⟨rfl, rfl, (by first | rfl | (simp)), (by first | rfl | (simp)), trivial⟩ rfl (by first | rfl | (rw [take_snoc (by omega)]; rfl)) (pn_at (m' := tl xs n0 - (k + 1)) (by omega) ⟨k + 1, x12 6, rfl, (((hg10).trans hg11).trans hg12).trans hg13, by omega, rfl, rfl, rfl⟩)
  · replace hc := of_decide_eq_false hc
    refine tri_exit ?_
    repeat refine pn_then (by simp) ?_
    refine pn_ex ?_
    refine next rfl rfl rfl ?_
    refine tri_seq ?_
    refine tri_reg mixed [.con (v), .con (v)] [2] [] [0] ?_ (by decide) ?_ ?_ _ _
    · kernel_rfl
    · exact ⟨pu, pu, trivial⟩
    rintro p14 x14 u14 hg14 -
    replace h0 := h0.sub dLk hg14.1
    have hG14 := hG11.trans hg14
    refine next (g' := [(2, v)]) (bx' := []) (rw' := [rowE dLk (v) 93 (xs.take k)]) (by kernel_rfl) (by kernel_rfl) (by kernel_rfl) ?_
    obtain rfl : k = tl xs n0 := by omega
    refine tri_freeze 0 (l := xs.take (tl xs n0)) rfl fun u15 hg15 hfz => ?_
    have hG15 := hG14.trans hg15
    refine tri_cast rfl rfl (rw' := []) rfl ?_
    exact tri_ret (ret1 rfl (v) rfl hG15 (LCv.of (by rw [← dig_of (hl.take _) (tl_can (n := n0) (by omega)) (by rw [tl_val (n := n0) (by omega), ← l0, List.take_length]; exact hv)]; exact hfz)))

theorem r01_NormV {u : World} {v : Value} {N b : Nat} (h : Lv u v N b) (hb : b ≤ 35184372088831) : Fn Try.prog 110 #[v] u (fun u r => LCv u r N) := by
  obtain ⟨xs, h1, h2, h3, h4⟩ := h.sl
  exact r01_Norm h1 h2 h3 (by omega)
theorem Lv.lim {u : World} {v : Value} {N b : Nat} (h : Lv u v N b) : lim N ≤ b := by
  obtain ⟨A, n, c, _, h0, h⟩ := h
  exact Nat.le_trans h.len_ge h0
theorem Mt.lim_val {xs : List Int} {N b : Nat} (hl : Lim xs) (hv : val xs = N) (hb : xs.length ≤ b) : lim N ≤ b := Nat.le_trans (lim_le (by rw [← hv]; exact val_lt hl)) hb

set_option maxRecDepth 100000 in
theorem r01_Cmp {u : World} {M N a b : Nat} {v0 : Value} {v1 : Value} (h0 : Lv u v0 M a) (h1 : Lv u v1 N b) (ha : a ≤ 35184372088831) (hb : b ≤ 35184372088831) : Fn Try.prog 117 #[v0, v1] u (Is (.int .i64 (sgnc M N))) := by
  obtain ⟨A0, n0, c0, xs0, rfl, h0, l0, b0, M0, L0, V0⟩ := h0.open
  obtain ⟨A1, n1, c1, xs1, rfl, h1, l1, b1, M1, L1, V1⟩ := h1.open
  refine fn_of (args := [_, _]) Try.func117 rfl (by show 2 ≤ 30; decide) ?_
  intro w0 hs0
  have hG0 := Gr.refl w0.heap.size u
  refine tri_seq ?_
  refine tri_reg mixed [.con (.int .i64 0)] [0, 1] [] [] ?_ (by decide) ?_ ?_ _ _
  · kernel_rfl
  · exact ⟨pu, trivial⟩
  rintro p1 x1 u1 hg1 -
  replace h0 := h0.sub dLk hg1.1; replace h1 := h1.sub dLk hg1.1
  have hG1 := hG0.trans hg1
  refine next (g' := [(0, .slice A0 n0 c0), (1, .slice A1 n1 c1)]) (bx' := []) (rw' := []) (by kernel_rfl) (by kernel_rfl) (by kernel_rfl) ?_
  refine tri_seq ?_
  refine tri_seq ?_
  refine tri_reg mixed [.con (.slice A0 n0 c0), .con (.int .i64 (n0 : Int)), .con (.slice A1 n1 c1), .con (.int .i64 (n1 : Int)), .con (.int .i64 (max (n0 : Int) (n1 : Int))), .con (.int .i64 (((max n0 n1 : Nat) : Int) - 1)), .con (.int .i64 (((max n0 n1 : Nat) : Int) - 1))] [0, 1, 5] [] [] ?_ (by decide) ?_ ?_ _ _
  · kernel_rfl
  · exact ⟨pu, pu, pu, pu, cc fun f u w hs => r01_most, pw (w64 (n := (max (n0 : Int) (n1 : Int)) - 1) (by omega)), pu, trivial⟩
  rintro p2 x2 u2 hg2 -
  replace h0 := h0.sub dLk hg2.1; replace h1 := h1.sub dLk hg2.1
  have hG2 := hG1.trans hg2
  refine next (g' := [(0, .slice A0 n0 c0), (1, .slice A1 n1 c1), (5, .int .i64 (((max n0 n1 : Nat) : Int) - 1))]) (bx' := []) (rw' := []) (by kernel_rfl) (by kernel_rfl) (by kernel_rfl) ?_
  refine tri_block ?_
  refine tri_loop (fun m_ g_ bx_ rw_ u_ => ∃ (k : Nat), (m_ = k ∧ Gr w0.heap.size u2 u_ ∧ k ≤ max n0 n1 ∧ val (xs0.drop k) = val (xs1.drop k) ∧ g_ = [(0, .slice A0 n0 c0), (1, .slice A1 n1 c1), (5, .int .i64 ((k : Int) - 1))] ∧ bx_ = [] ∧ rw_ = [])) ((max n0 n1)) ⟨max n0 n1, rfl, Gr.refl _ _, Nat.le_refl _, by rw [List.drop_eq_nil_of_le (by omega), List.drop_eq_nil_of_le (by omega)], rfl, rfl, rfl⟩ ?_
  rintro m_ g_ bx_ rw_ u3 ⟨k, hm_, hg3, hk, hd, rfl, rfl, rfl⟩
  replace h0 := h0.sub dLk hg3.1; replace h1 := h1.sub dLk hg3.1
  have hG3 := hG2.trans hg3
  rcases Nat.eq_zero_or_pos k with hk0 | hk0
  · subst hk0
    refine tri_seq ?_
    refine tri_seq ?_
    refine tri_reg mixed [.con (.int .i64 (((0 : Nat) : Int) - 1)), .con (.bool false)] [0, 1, 5, 15] [] [] ?_ (by decide) ?_ ?_ _ _
    · kernel_rfl
    · exact ⟨pu, pw (bf (p := 0 ≤ (((0 : Nat) : Int) - 1)) (by omega)), trivial⟩
    rintro p4 x4 u4 hg4 -
    replace h0 := h0.sub dLk hg4.1; replace h1 := h1.sub dLk hg4.1
    have hG4 := hG3.trans hg4
    refine next (g' := [(0, .slice A0 n0 c0), (1, .slice A1 n1 c1), (5, .int .i64 (((0 : Nat) : Int) - 1)), (15, .bool false)]) (bx' := []) (rw' := []) (by kernel_rfl) (by kernel_rfl) (by kernel_rfl) ?_
    refine tri_false rfl ?_
    refine tri_exit ?_
    repeat refine pn_then (by simp) ?_
    refine pn_ex ?_
    refine next rfl rfl rfl ?_
    refine tri_seq ?_
    refine tri_reg mixed [.con (.int .i64 0)] [4] [] [] ?_ (by decide) ?_ ?_ _ _
    · kernel_rfl
    · exact ⟨pu, trivial⟩
    rintro p5 x5 u5 hg5 -
    replace h0 := h0.sub dLk hg5.1; replace h1 := h1.sub dLk hg5.1
    have hG5 := hG4.trans hg5
    refine next (g' := [(4, .int .i64 0)]) (bx' := []) (rw' := []) (by kernel_rfl) (by kernel_rfl) (by kernel_rfl) ?_
    exact tri_ret (ret1 rfl (.int .i64 0) rfl hG5 (by show Value.int .i64 _ = _; congr 1; exact (sgnc_eq (by rw [← V0, ← V1]; simpa using hd)).symm))
  · obtain ⟨m, rfl⟩ : ∃ m, k = m + 1 := ⟨k - 1, by omega⟩
    refine tri_sub (g' := [(0, .slice A0 n0 c0), (1, .slice A1 n1 c1), (5, .int .i64 (m : Int))]) ⟨rfl, rfl, (by first | rfl | (show some (Value.int .i64 _) = some (Value.int .i64 _); congr 2; omega)), trivial⟩ ?_
    refine tri_seq ?_
    refine tri_seq ?_
    refine tri_reg mixed [.con (.int .i64 (m : Int)), .con (.bool true)] [0, 1, 5, 15] [] [] ?_ (by decide) ?_ ?_ _ _
    · kernel_rfl
    · exact ⟨pu, pw (bt (p := 0 ≤ (m : Int)) (by omega)), trivial⟩
    rintro p6 x6 u6 hg6 -
    replace h0 := h0.sub dLk hg6.1; replace h1 := h1.sub dLk hg6.1
    have hG6 := hG3.trans hg6
    refine next (g' := [(0, .slice A0 n0 c0), (1, .slice A1 n1 c1), (5, .int .i64 (m : Int)), (15, .bool true)]) (bx' := []) (rw' := []) (by kernel_rfl) (by kernel_rfl) (by kernel_rfl) ?_
    refine tri_true rfl ?_
    refine tri_skip ?_
    refine next rfl rfl rfl ?_
    refine tri_seq ?_
    refine tri_block ?_
    refine tri_seq ?_
    refine tri_reg mixed [.con (.slice A0 n0 c0), .con (.int .i64 (m : Int)), .con (.int .u64 (at_ xs0 m)), .con (.int .u64 (at_ xs0 m))] [0, 1, 5, 6] [] [] ?_ (by decide) ?_ ?_ _ _
    · kernel_rfl
    · exact ⟨pu, pu, cc fun f u w hs => r01_limb (h0.sub dLk hs.old) L0, pu, trivial⟩
    rintro p7 x7 u7 hg7 -
    replace h0 := h0.sub dLk hg7.1; replace h1 := h1.sub dLk hg7.1
    have hG7 := hG6.trans hg7
    refine next (g' := [(0, .slice A0 n0 c0), (1, .slice A1 n1 c1), (5, .int .i64 (m : Int)), (6, .int .u64 (at_ xs0 m))]) (bx' := []) (rw' := []) (by kernel_rfl) (by kernel_rfl) (by kernel_rfl) ?_
    refine tri_seq ?_
    refine tri_reg mixed [.con (.slice A1 n1 c1), .con (.int .i64 (m : Int)), .con (.int .u64 (at_ xs1 m)), .con (.int .u64 (at_ xs1 m))] [0, 1, 5, 6, 7] [] [] ?_ (by decide) ?_ ?_ _ _
    · kernel_rfl
    · exact ⟨pu, pu, cc fun f u w hs => r01_limb (h1.sub dLk hs.old) L1, pu, trivial⟩
    rintro p8 x8 u8 hg8 -
    replace h0 := h0.sub dLk hg8.1; replace h1 := h1.sub dLk hg8.1
    have hG8 := hG7.trans hg8
    refine next (g' := [(0, .slice A0 n0 c0), (1, .slice A1 n1 c1), (5, .int .i64 (m : Int)), (6, .int .u64 (at_ xs0 m)), (7, .int .u64 (at_ xs1 m))]) (bx' := []) (rw' := []) (by kernel_rfl) (by kernel_rfl) (by kernel_rfl) ?_
    refine tri_seq ?_
    refine tri_seq ?_
    refine tri_reg mixed [.con (.int .u64 (at_ xs0 m)), .con (.int .u64 (at_ xs1 m)), .con (.bool (decide ((at_ xs0 m) < (at_ xs1 m))))] [0, 1, 5, 6, 7, 26] [] [] ?_ (by decide) ?_ ?_ _ _
    · kernel_rfl
    · exact ⟨pu, pu, pu, trivial⟩
    rintro p9 x9 u9 hg9 -
    replace h0 := h0.sub dLk hg9.1; replace h1 := h1.sub dLk hg9.1
    have hG9 := hG8.trans hg9
    refine next (g' := [(0, .slice A0 n0 c0), (1, .slice A1 n1 c1), (5, .int .i64 (m : Int)), (6, .int .u64 (at_ xs0 m)), (7, .int .u64 (at_ xs1 m)), (26, .bool (decide ((at_ xs0 m) < (at_ xs1 m))))]) (bx' := []) (rw' := []) (by kernel_rfl) (by kernel_rfl) (by kernel_rfl) ?_
    refine tri_cond (b := (decide ((at_ xs0 m) < (at_ xs1 m)))) rfl (fun hc => ?_) (fun hc => ?_)
    · replace hc := of_decide_eq_true hc
      refine tri_seq ?_
      refine tri_reg mixed [.con (.int .i64 (-1))] [4] [] [] ?_ (by decide) ?_ ?_ _ _
      · kernel_rfl
      · exact ⟨pu, trivial⟩
      rintro p10 x10 u10 hg10 -
      replace h0 := h0.sub dLk hg10.1; replace h1 := h1.sub dLk hg10.1
      have hG10 := hG9.trans hg10
      refine next (g' := [(4, .int .i64 (-1))]) (bx' := []) (rw' := []) (by kernel_rfl) (by kernel_rfl) (by kernel_rfl) ?_
      exact tri_ret (ret1 rfl (.int .i64 (-1)) rfl hG10 (by show Value.int .i64 _ = _; congr 1; exact (sgnc_lt (by rw [← V0, ← V1]; exact Mt.cmp_lt L0 L1 hd hc)).symm))
    · replace hc := of_decide_eq_false hc
      refine tri_skip ?_
      refine next rfl rfl rfl ?_
      refine tri_seq ?_
      refine tri_reg mixed [.con (.int .u64 (at_ xs0 m)), .con (.int .u64 (at_ xs1 m)), .con (.bool (decide ((at_ xs1 m) < (at_ xs0 m))))] [0, 1, 5, 29] [] [] ?_ (by decide) ?_ ?_ _ _
      · kernel_rfl
      · exact ⟨pu, pu, pu, trivial⟩
      rintro p11 x11 u11 hg11 -
      replace h0 := h0.sub dLk hg11.1; replace h1 := h1.sub dLk hg11.1
      have hG11 := hG9.trans hg11
      refine next (g' := [(0, .slice A0 n0 c0), (1, .slice A1 n1 c1), (5, .int .i64 (m : Int)), (29, .bool (decide ((at_ xs1 m) < (at_ xs0 m))))]) (bx' := []) (rw' := []) (by kernel_rfl) (by kernel_rfl) (by kernel_rfl) ?_
      refine tri_cond (b := (decide ((at_ xs1 m) < (at_ xs0 m)))) rfl (fun hc => ?_) (fun hc => ?_)
      · replace hc := of_decide_eq_true hc
        refine tri_seq ?_
        refine tri_reg mixed [.con (.int .i64 1)] [4] [] [] ?_ (by decide) ?_ ?_ _ _
        · kernel_rfl
        · exact ⟨pu, trivial⟩
        rintro p12 x12 u12 hg12 -
        replace h0 := h0.sub dLk hg12.1; replace h1 := h1.sub dLk hg12.1
        have hG12 := hG11.trans hg12
        refine next (g' := [(4, .int .i64 1)]) (bx' := []) (rw' := []) (by kernel_rfl) (by kernel_rfl) (by kernel_rfl) ?_
        exact tri_ret (ret1 rfl (.int .i64 1) rfl hG12 (by show Value.int .i64 _ = _; congr 1; exact (sgnc_gt (by rw [← V0, ← V1]; exact Mt.cmp_lt L1 L0 hd.symm hc)).symm))
      · replace hc := of_decide_eq_false hc
        refine tri_skip ?_
        refine pn_blk ?_
        refine next rfl rfl rfl ?_
        refine tri_reg mixed [.con (.int .i64 (m : Int)), .con (.int .i64 ((m : Int) - 1)), .con (.int .i64 ((m : Int) - 1))] [0, 1, 5] [] [] ?_ (by decide) ?_ ?_ _ _
        · kernel_rfl
        · exact ⟨pu, pw (w64 (n := (m : Int) - 1) (by omega)), pu, trivial⟩
        rintro p13 x13 u13 hg13 -
        replace h0 := h0.sub dLk hg13.1; replace h1 := h1.sub dLk hg13.1
        have hG13 := hG11.trans hg13
        exact PN.sub (g' := [(0, .slice A0 n0 c0), (1, .slice A1 n1 c1), (5, .int .i64 ((m : Int) - 1))]) (bx' := []) (rw' := []) ⟨rfl, rfl, rfl, trivial⟩ rfl rfl (pn_at (m' := m) (by omega) ⟨m, rfl, ((((((hg3).trans hg6).trans hg7).trans hg8).trans hg9).trans hg11).trans hg13, by omega, Mt.cmp_eq hd (by omega) (by omega), rfl, rfl, rfl⟩)

set_option maxRecDepth 100000 in
theorem r01_Add {u : World} {M N a b : Nat} {v0 : Value} {v1 : Value} (h0 : Lv u v0 M a) (h1 : Lv u v1 N b) (ha : a ≤ 8796093022208) (hb : b ≤ 8796093022208) : Fn Try.prog 116 #[v0, v1] u (fun u r => LCv u r (M + N)) := by
  obtain ⟨A0, n0, c0, xs0, rfl, h0, l0, b0, M0, L0, V0⟩ := h0.open
  obtain ⟨A1, n1, c1, xs1, rfl, h1, l1, b1, M1, L1, V1⟩ := h1.open
  refine fn_of (args := [_, _]) Try.func116 rfl (by show 2 ≤ 41; decide) ?_
  intro w0 hs0
  have hG0 := Gr.refl w0.heap.size u
  refine tri_seq ?_
  refine tri_reg mixed [.con (.slice none 0 0)] [0, 1] [] [] ?_ (by decide) ?_ ?_ _ _
  · kernel_rfl
  · exact ⟨pu, trivial⟩
  rintro p1 x1 u1 hg1 -
  replace h0 := h0.sub dLk hg1.1; replace h1 := h1.sub dLk hg1.1
  have hG1 := hG0.trans hg1
  refine next (g' := [(0, .slice A0 n0 c0), (1, .slice A1 n1 c1)]) (bx' := []) (rw' := []) (by kernel_rfl) (by kernel_rfl) (by kernel_rfl) ?_
  refine tri_seq ?_
  refine tri_reg mixed [.con (.slice none 0 0)] [0, 1, 5] [] [] ?_ (by decide) ?_ ?_ _ _
  · kernel_rfl
  · exact ⟨pu, trivial⟩
  rintro p2 x2 u2 hg2 -
  replace h0 := h0.sub dLk hg2.1; replace h1 := h1.sub dLk hg2.1
  have hG2 := hG1.trans hg2
  refine next (g' := [(0, .slice A0 n0 c0), (1, .slice A1 n1 c1), (5, .slice none 0 0)]) (bx' := []) (rw' := []) (by kernel_rfl) (by kernel_rfl) (by kernel_rfl) ?_
  refine tri_seq ?_
  refine tri_reg mixed [.con (.int .u64 0)] [0, 1, 5, 6] [] [] ?_ (by decide) ?_ ?_ _ _
  · kernel_rfl
  · exact ⟨pu, trivial⟩
  rintro p3 x3 u3 hg3 -
  replace h0 := h0.sub dLk hg3.1; replace h1 := h1.sub dLk hg3.1
  have hG3 := hG2.trans hg3
  refine next (g' := [(0, .slice A0 n0 c0), (1, .slice A1 n1 c1), (5, .slice none 0 0), (6, .int .u64 0)]) (bx' := []) (rw' := []) (by kernel_rfl) (by kernel_rfl) (by kernel_rfl) ?_
  refine tri_seq ?_
  refine tri_seq ?_
  refine tri_nil dLk 93 ?_
  refine tri_reg mixed [.con (.int .i64 0)] [0, 1, 5, 6, 7] [] [0] ?_ (by decide) ?_ ?_ _ _
  · kernel_rfl
  · exact ⟨pu, trivial⟩
  rintro p4 x4 u4 hg4 -
  replace h0 := h0.sub dLk hg4.1; replace h1 := h1.sub dLk hg4.1
  have hG4 := hG3.trans hg4
  refine next (g' := [(0, .slice A0 n0 c0), (1, .slice A1 n1 c1), (5, .slice none 0 0), (6, .int .u64 0), (7, .int .i64 0)]) (bx' := []) (rw' := [rowE dLk (.slice none 0 0) 93 []]) (by kernel_rfl) (by kernel_rfl) (by kernel_rfl) ?_
  refine tri_block ?_
  refine tri_loop (fun m_ g_ bx_ rw_ u_ => ∃ (k : Nat) (c : Int) (zs : List Int) (v : Value), (m_ = max n0 n1 - k ∧ Gr w0.heap.size u4 u_ ∧ k ≤ max n0 n1 ∧ Mt.sumI xs0 xs1 zs k c ∧ g_ = [(0, .slice A0 n0 c0), (1, .slice A1 n1 c1), (5, v), (6, .int .u64 c), (7, .int .i64 (k : Int))] ∧ bx_ = [] ∧ rw_ = [rowE dLk (v) 93 zs])) (max n0 n1 - 0) ⟨0, 0, [], .slice none 0 0, rfl, Gr.refl _ _, Nat.zero_le _, Mt.sumI_start _ _, rfl, rfl, rfl⟩ ?_
  rintro m_ g_ bx_ rw_ u5 ⟨k, c, zs, v, hm_, hg5, hk, hR, rfl, rfl, rfl⟩
  replace h0 := h0.sub dLk hg5.1; replace h1 := h1.sub dLk hg5.1
  have hG5 := hG4.trans hg5
  have bx := L0.at_ k; have bY := L1.at_ k; have bc := hR.1; have bd := hR.2.1
  refine tri_seq ?_
  refine tri_seq ?_
  refine tri_reg mixed [.con (.int .i64 (k : Int)), .con (.slice A0 n0 c0), .con (.int .i64 (n0 : Int)), .con (.slice A1 n1 c1), .con (.int .i64 (n1 : Int)), .con (.int .i64 (max (n0 : Int) (n1 : Int))), .con (.bool (decide ((k : Int) < (max (n0 : Int) (n1 : Int)))))] [0, 1, 5, 6, 7, 14] [] [0] ?_ (by decide) ?_ ?_ _ _
  · kernel_rfl
  · exact ⟨pu, pu, pu, pu, pu, cc fun f u w hs => r01_most, pu, trivial⟩
  rintro p6 x6 u6 hg6 -
  replace h0 := h0.sub dLk hg6.1; replace h1 := h1.sub dLk hg6.1
  have hG6 := hG5.trans hg6
  refine next (g' := [(0, .slice A0 n0 c0), (1, .slice A1 n1 c1), (5, v), (6, .int .u64 c), (7, .int .i64 (k : Int)), (14, .bool (decide ((k : Int) < (max (n0 : Int) (n1 : Int)))))]) (bx' := []) (rw' := [rowE dLk (v) 93 zs]) (by kernel_rfl) (by kernel_rfl) (by kernel_rfl) ?_
  refine tri_cond (b := (decide ((k : Int) < (max (n0 : Int) (n1 : Int))))) rfl (fun hc => ?_) (fun hc => ?_)
  · replace hc := of_decide_eq_true hc
    refine tri_skip ?_
    refine next rfl rfl rfl ?_
    refine tri_seq ?_
    refine tri_block ?_
    refine tri_seq ?_
    refine tri_reg mixed [.con (.int .u64 c), .con (.slice A0 n0 c0), .con (.int .i64 (k : Int)), .con (.int .u64 (at_ xs0 k)), .con (.int .u64 (c + (at_ xs0 k))), .con (.slice A1 n1 c1), .con (.int .i64 (k : Int)), .con (.int .u64 (at_ xs1 k)), .con (.int .u64 ((c + (at_ xs0 k)) + (at_ xs1 k))), .con (.int .u64 ((c + (at_ xs0 k)) + (at_ xs1 k)))] [0, 1, 5, 6, 7] [] [0] ?_ (by decide) ?_ ?_ _ _
    · kernel_rfl
    · exact ⟨pu, pu, pu, cc fun f u w hs => r01_limb (h0.sub dLk hs.old) L0, pw (wu64 (n := c + (at_ xs0 k)) (by omega)), pu, pu, cc fun f u w hs => r01_limb (h1.sub dLk hs.old) L1, pw (wu64 (n := (c + (at_ xs0 k)) + (at_ xs1 k)) (by omega)), pu, trivial⟩
    rintro p7 x7 u7 hg7 -
    replace h0 := h0.sub dLk hg7.1; replace h1 := h1.sub dLk hg7.1
    have hG7 := hG6.trans hg7
    refine next (g' := [(0, .slice A0 n0 c0), (1, .slice A1 n1 c1), (5, v), (6, .int .u64 ((c + (at_ xs0 k)) + (at_ xs1 k))), (7, .int .i64 (k : Int))]) (bx' := []) (rw' := [rowE dLk (v) 93 zs]) (by kernel_rfl) (by kernel_rfl) (by kernel_rfl) ?_
    refine tri_seq ?_
    have hzl := hR.2.2.1
    refine tri_reg mixed [.con (v), .con (.int .u64 ((c + (at_ xs0 k)) + (at_ xs1 k))), .con (.int .u64 (((c + (at_ xs0 k)) + (at_ xs1 k)) % 4294967296)), .con (.int .u32 (((c + (at_ xs0 k)) + (at_ xs1 k)) % 4294967296)), .opq (fun u r => Sl dL u r [(((c + (at_ xs0 k)) + (at_ xs1 k)) % 4294967296)]), .rop 0 (fun v => rowE dLk v 93 (zs ++ [(((c + (at_ xs0 k)) + (at_ xs1 k)) % 4294967296)])), .cpy 5] [0, 1, 5, 6, 7] [] [0] ?_ (by decide) ?_ ?_ _ _
    · kernel_rfl
    · exact ⟨pu, pu, pw (ru64 (n := ((c + (at_ xs0 k)) + (at_ xs1 k))) (d := 4294967296) (by omega)), pw (wu32 (n := (((c + (at_ xs0 k)) + (at_ xs1 k)) % 4294967296)) (by omega)), bsL sl29, ap (hd := dLk) (bytes := 4) 0 4 sl29 (fun _ => rfl) rfl (by simp) (by simp only [List.length_cons, List.length_nil]; omega) (by decide), cp, trivial⟩
    rintro p8 x8 u8 hg8 ⟨q4, -⟩
    replace h0 := h0.sub dLk hg8.1; replace h1 := h1.sub dLk hg8.1
    have hG8 := hG7.trans hg8
    refine next (g' := [(0, .slice A0 n0 c0), (1, .slice A1 n1 c1), (5, x8 5), (6, .int .u64 ((c + (at_ xs0 k)) + (at_ xs1 k))), (7, .int .i64 (k : Int))]) (bx' := []) (rw' := [rowE dLk (x8 5) 93 (zs ++ [(((c + (at_ xs0 k)) + (at_ xs1 k)) % 4294967296)])]) (by kernel_rfl) (by kernel_rfl) (by kernel_rfl) ?_
    refine tri_reg mixed [.con (.int .u64 ((c + (at_ xs0 k)) + (at_ xs1 k))), .con (.int .u64 (((c + (at_ xs0 k)) + (at_ xs1 k)) / 4294967296)), .con (.int .u64 (((c + (at_ xs0 k)) + (at_ xs1 k)) / 4294967296))] [0, 1, 5, 6, 7] [] [0] ?_ (by decide) ?_ ?_ _ _
    · kernel_rfl
    · exact ⟨pu, pw (qu64 (n := ((c + (at_ xs0 k)) + (at_ xs1 k))) (d := 4294967296) (by omega)), pu, trivial⟩
    rintro p9 x9 u9 hg9 -
    replace h0 := h0.sub dLk hg9.1; replace h1 := h1.sub dLk hg9.1
    have hG9 := hG8.trans hg9
    refine pn_blk ?_
    refine next (g' := [(0, .slice A0 n0 c0), (1, .slice A1 n1 c1), (5, x8 5), (6, .int .u64 (((c + (at_ xs0 k)) + (at_ xs1 k)) / 4294967296)), (7, .int .i64 (k : Int))]) (bx' := []) (rw' := [rowE dLk (x8 5) 93 (zs ++ [(((c + (at_ xs0 k)) + (at_ xs1 k)) % 4294967296)])]) (by kernel_rfl) (by kernel_rfl) (by kernel_rfl) ?_
    refine tri_reg mixed [.con (.int .i64 (k : Int)), .con (.int .i64 ((k : Int) + 1)), .con (.int .i64 ((k : Int) + 1))] [0, 1, 5, 6, 7] [] [0] ?_ (by decide) ?_ ?_ _ _
    · kernel_rfl
    · exact ⟨pu, pw (w64 (n := (k : Int) + 1) (by omega)), pu, trivial⟩
    rintro p10 x10 u10 hg10 -
    replace h0 := h0.sub dLk hg10.1; replace h1 := h1.sub dLk hg10.1
    have hG10 := hG9.trans hg10
    exact PN.sub (g' := [(0, .slice A0 n0 c0), (1, .slice A1 n1 c1), (5, (x8 5)), (6, .int .u64 ((c + at_ xs0 k + at_ xs1 k) / 4294967296)), (7, .int .i64 ((k + 1) : Int))]) (bx' := []) (rw' := [rowE dLk ((x8 5)) 93 (zs ++ [(c + at_ xs0 k + at_ xs1 k) % 4294967296])]) ⟨rfl, rfl, (by first | rfl | (simp)), (by first | rfl | (simp)), (by first | rfl | (simp)), trivial⟩ rfl rfl (pn_at (m' := max n0 n1 - (k + 1)) (by omega) ⟨k + 1, (c + at_ xs0 k + at_ xs1 k) / 4294967296, zs ++ [(c + at_ xs0 k + at_ xs1 k) % 4294967296], x8 5, rfl, (((((hg5).trans hg6).trans hg7).trans hg8).trans hg9).trans hg10, by omega, Mt.sumI_step hR L0 L1, rfl, rfl, rfl⟩)
  · replace hc := of_decide_eq_false hc
    refine tri_exit ?_
    repeat refine pn_then (by simp) ?_
    refine pn_ex ?_
    refine next rfl rfl rfl ?_
    refine tri_seq ?_
    have hE := Mt.sumI_end hR (by omega) (by omega)
    have bc := hR.1; have bd := hR.2.1; have hzl := hR.2.2.1
    refine tri_reg mixed [.con (v), .con (.int .u64 c), .con (.int .u32 c), .opq (fun u r => Sl dL u r [c]), .rop 0 (fun v => rowE dLk v 93 (zs ++ [c])), .cpy 4] [5] [] [0] ?_ (by decide) ?_ ?_ _ _
    · kernel_rfl
    · exact ⟨pu, pu, pw (wu32 (n := c) (by omega)), bsL sl29, ap (hd := dLk) (bytes := 4) 0 3 sl29 (fun _ => rfl) rfl (by simp) (by simp only [List.length_cons, List.length_nil]; omega) (by decide), cp, trivial⟩
    rintro p11 x11 u11 hg11 ⟨q3, -⟩
    replace h0 := h0.sub dLk hg11.1; replace h1 := h1.sub dLk hg11.1
    have hG11 := hG6.trans hg11
    refine next (g' := [(5, x11 4)]) (bx' := []) (rw' := [rowE dLk (x11 4) 93 (zs ++ [c])]) (by kernel_rfl) (by kernel_rfl) (by kernel_rfl) ?_
    refine tri_seq ?_
    refine tri_freeze 0 (l := zs ++ [c]) rfl fun u13 hg13 hz => ?_
    have hG13 := hG11.trans hg13
    refine tri_cast rfl rfl (rw' := []) rfl ?_
    have hv : val (zs ++ [c]) = ((M + N : Nat) : Int) := by rw [hE.1, V0, V1]; simp
    refine tri_reg mixed [.con (x11 4), .opq (fun u r => LCv u r (M + N)), .cpy 1] [4] [] [] ?_ (by decide) ?_ ?_ _ _
    · kernel_rfl
    · exact ⟨pu, ca (LCv.m _) fun f u w hs => (r01_NormV (Lv.of (b := (a + b + 1)) (hz.sub dLk hs.old) hE.2 hv (by rw [List.length_append, hzl, List.length_singleton]; omega)) (by omega)), cp, trivial⟩
    rintro p12 x12 u12 hg12 ⟨q1, -⟩
    replace hz := hz.sub dLk hg12.1
    have hG12 := hG13.trans hg12
    obtain ⟨A12_1, n12_1, c12_1, e12_1, h12_1, l12_1, l12_1n, l12_1M⟩ := q1.open; rw [fun_upd (i := 1) e12_1]
    refine next (g' := [(4, .slice A12_1 n12_1 c12_1)]) (bx' := []) (rw' := []) (by kernel_rfl) (by kernel_rfl) (by kernel_rfl) ?_
    exact tri_ret (ret1 rfl (.slice A12_1 n12_1 c12_1) rfl hG12 (LCv.of h12_1))

set_option maxRecDepth 100000 in
theorem r01_less {u : World} {M N a b : Nat} {v0 : Value} {v1 : Value} (h0 : Lv u v0 M a) (h1 : Lv u v1 N b) (ha : a ≤ 8796093022208) (hb : b ≤ 8796093022208) (hle : N ≤ M) : Fn Try.prog 155 #[v0, v1] u (fun u r => LCv u r (M - N)) := by
  obtain ⟨A0, n0, c0, xs0, rfl, h0, l0, b0, M0, L0, V0⟩ := h0.open
  obtain ⟨A1, n1, c1, xs1, rfl, h1, l1, b1, M1, L1, V1⟩ := h1.open
  refine fn_of (args := [_, _]) Try.func155 rfl (by show 2 ≤ 38; decide) ?_
  intro w0 hs0
  have hG0 := Gr.refl w0.heap.size u
  refine tri_seq ?_
  refine tri_reg mixed [.con (.slice none 0 0)] [0, 1] [] [] ?_ (by decide) ?_ ?_ _ _
  · kernel_rfl
  · exact ⟨pu, trivial⟩
  rintro p1 x1 u1 hg1 -
  replace h0 := h0.sub dLk hg1.1; replace h1 := h1.sub dLk hg1.1
  have hG1 := hG0.trans hg1
  refine next (g' := [(0, .slice A0 n0 c0), (1, .slice A1 n1 c1)]) (bx' := []) (rw' := []) (by kernel_rfl) (by kernel_rfl) (by kernel_rfl) ?_
  refine tri_seq ?_
  refine tri_reg mixed [.con (.slice none 0 0)] [0, 1, 5] [] [] ?_ (by decide) ?_ ?_ _ _
  · kernel_rfl
  · exact ⟨pu, trivial⟩
  rintro p2 x2 u2 hg2 -
  replace h0 := h0.sub dLk hg2.1; replace h1 := h1.sub dLk hg2.1
  have hG2 := hG1.trans hg2
  refine next (g' := [(0, .slice A0 n0 c0), (1, .slice A1 n1 c1), (5, .slice none 0 0)]) (bx' := []) (rw' := []) (by kernel_rfl) (by kernel_rfl) (by kernel_rfl) ?_
  refine tri_seq ?_
  refine tri_reg mixed [.con (.int .u64 0)] [0, 1, 5, 6] [] [] ?_ (by decide) ?_ ?_ _ _
  · kernel_rfl
  · exact ⟨pu, trivial⟩
  rintro p3 x3 u3 hg3 -
  replace h0 := h0.sub dLk hg3.1; replace h1 := h1.sub dLk hg3.1
  have hG3 := hG2.trans hg3
  refine next (g' := [(0, .slice A0 n0 c0), (1, .slice A1 n1 c1), (5, .slice none 0 0), (6, .int .u64 0)]) (bx' := []) (rw' := []) (by kernel_rfl) (by kernel_rfl) (by kernel_rfl) ?_
  refine tri_seq ?_
  refine tri_seq ?_
  refine tri_nil dLk 93 ?_
  refine tri_reg mixed [.con (.int .i64 0)] [0, 1, 5, 6, 7] [] [0] ?_ (by decide) ?_ ?_ _ _
  · kernel_rfl
  · exact ⟨pu, trivial⟩
  rintro p4 x4 u4 hg4 -
  replace h0 := h0.sub dLk hg4.1; replace h1 := h1.sub dLk hg4.1
  have hG4 := hG3.trans hg4
  refine next (g' := [(0, .slice A0 n0 c0), (1, .slice A1 n1 c1), (5, .slice none 0 0), (6, .int .u64 0), (7, .int .i64 0)]) (bx' := []) (rw' := [rowE dLk (.slice none 0 0) 93 []]) (by kernel_rfl) (by kernel_rfl) (by kernel_rfl) ?_
  refine tri_block ?_
  refine tri_loop (fun m_ g_ bx_ rw_ u_ => ∃ (k : Nat) (c : Int) (zs : List Int) (v : Value), (m_ = n0 - k ∧ Gr w0.heap.size u4 u_ ∧ k ≤ n0 ∧ Mt.difI xs0 xs1 zs k c ∧ g_ = [(0, .slice A0 n0 c0), (1, .slice A1 n1 c1), (5, v), (6, .int .u64 c), (7, .int .i64 (k : Int))] ∧ bx_ = [] ∧ rw_ = [rowE dLk (v) 93 zs])) (n0 - 0) ⟨0, 0, [], .slice none 0 0, rfl, Gr.refl _ _, Nat.zero_le _, Mt.difI_start _ _, rfl, rfl, rfl⟩ ?_
  rintro m_ g_ bx_ rw_ u5 ⟨k, c, zs, v, hm_, hg5, hk, hR, rfl, rfl, rfl⟩
  replace h0 := h0.sub dLk hg5.1; replace h1 := h1.sub dLk hg5.1
  have hG5 := hG4.trans hg5
  have bx := L0.at_ k; have bY := L1.at_ k; have bc := hR.1; have bd := hR.2.1
  refine tri_seq ?_
  refine tri_seq ?_
  refine tri_reg mixed [.con (.int .i64 (k : Int)), .con (.slice A0 n0 c0), .con (.int .i64 (n0 : Int)), .con (.bool (decide ((k : Int) < (n0 : Int))))] [0, 1, 5, 6, 7, 13] [] [0] ?_ (by decide) ?_ ?_ _ _
  · kernel_rfl
  · exact ⟨pu, pu, pu, pu, trivial⟩
  rintro p6 x6 u6 hg6 -
  replace h0 := h0.sub dLk hg6.1; replace h1 := h1.sub dLk hg6.1
  have hG6 := hG5.trans hg6
  refine next (g' := [(0, .slice A0 n0 c0), (1, .slice A1 n1 c1), (5, v), (6, .int .u64 c), (7, .int .i64 (k : Int)), (13, .bool (decide ((k : Int) < (n0 : Int))))]) (bx' := []) (rw' := [rowE dLk (v) 93 zs]) (by kernel_rfl) (by kernel_rfl) (by kernel_rfl) ?_
  refine tri_cond (b := (decide ((k : Int) < (n0 : Int)))) rfl (fun hc => ?_) (fun hc => ?_)
  · replace hc := of_decide_eq_true hc
    refine tri_skip ?_
    refine next rfl rfl rfl ?_
    refine tri_seq ?_
    refine tri_block ?_
    refine tri_seq ?_
    refine tri_reg mixed [.con (.slice A0 n0 c0), .con (.int .i64 (k : Int)), .con (.int .u64 (at_ xs0 k)), .con (.int .u64 (at_ xs0 k))] [0, 1, 5, 6, 7, 8] [] [0] ?_ (by decide) ?_ ?_ _ _
    · kernel_rfl
    · exact ⟨pu, pu, cc fun f u w hs => r01_limb (h0.sub dLk hs.old) L0, pu, trivial⟩
    rintro p7 x7 u7 hg7 -
    replace h0 := h0.sub dLk hg7.1; replace h1 := h1.sub dLk hg7.1
    have hG7 := hG6.trans hg7
    refine next (g' := [(0, .slice A0 n0 c0), (1, .slice A1 n1 c1), (5, v), (6, .int .u64 c), (7, .int .i64 (k : Int)), (8, .int .u64 (at_ xs0 k))]) (bx' := []) (rw' := [rowE dLk (v) 93 zs]) (by kernel_rfl) (by kernel_rfl) (by kernel_rfl) ?_
    refine tri_seq ?_
    refine tri_reg mixed [.con (.slice A1 n1 c1), .con (.int .i64 (k : Int)), .con (.int .u64 (at_ xs1 k)), .con (.int .u64 c), .con (.int .u64 ((at_ xs1 k) + c)), .con (.int .u64 ((at_ xs1 k) + c))] [0, 1, 5, 7, 8, 9] [] [0] ?_ (by decide) ?_ ?_ _ _
    · kernel_rfl
    · exact ⟨pu, pu, cc fun f u w hs => r01_limb (h1.sub dLk hs.old) L1, pu, pw (wu64 (n := (at_ xs1 k) + c) (by omega)), pu, trivial⟩
    rintro p8 x8 u8 hg8 -
    replace h0 := h0.sub dLk hg8.1; replace h1 := h1.sub dLk hg8.1
    have hG8 := hG7.trans hg8
    refine next (g' := [(0, .slice A0 n0 c0), (1, .slice A1 n1 c1), (5, v), (7, .int .i64 (k : Int)), (8, .int .u64 (at_ xs0 k)), (9, .int .u64 ((at_ xs1 k) + c))]) (bx' := []) (rw' := [rowE dLk (v) 93 zs]) (by kernel_rfl) (by kernel_rfl) (by kernel_rfl) ?_
    refine tri_seq ?_
    refine tri_reg mixed [.con (.int .u64 0)] [0, 1, 5, 6, 7, 8, 9] [] [0] ?_ (by decide) ?_ ?_ _ _
    · kernel_rfl
    · exact ⟨pu, trivial⟩
    rintro p9 x9 u9 hg9 -
    replace h0 := h0.sub dLk hg9.1; replace h1 := h1.sub dLk hg9.1
    have hG9 := hG8.trans hg9
    refine next (g' := [(0, .slice A0 n0 c0), (1, .slice A1 n1 c1), (5, v), (6, .int .u64 0), (7, .int .i64 (k : Int)), (8, .int .u64 (at_ xs0 k)), (9, .int .u64 ((at_ xs1 k) + c))]) (bx' := []) (rw' := [rowE dLk (v) 93 zs]) (by kernel_rfl) (by kernel_rfl) (by kernel_rfl) ?_
    refine tri_seq ?_
    refine tri_seq ?_
    refine tri_reg mixed [.con (.int .u64 (at_ xs0 k)), .con (.int .u64 ((at_ xs1 k) + c)), .con (.bool (decide ((at_ xs0 k) < ((at_ xs1 k) + c))))] [0, 1, 5, 6, 7, 8, 9, 26] [] [0] ?_ (by decide) ?_ ?_ _ _
    · kernel_rfl
    · exact ⟨pu, pu, pu, trivial⟩
    rintro p10 x10 u10 hg10 -
    replace h0 := h0.sub dLk hg10.1; replace h1 := h1.sub dLk hg10.1
    have hG10 := hG9.trans hg10
    refine next (g' := [(0, .slice A0 n0 c0), (1, .slice A1 n1 c1), (5, v), (6, .int .u64 0), (7, .int .i64 (k : Int)), (8, .int .u64 (at_ xs0 k)), (9, .int .u64 ((at_ xs1 k) + c)), (26, .bool (decide ((at_ xs0 k) < ((at_ xs1 k) + c))))]) (bx' := []) (rw' := [rowE dLk (v) 93 zs]) (by kernel_rfl) (by kernel_rfl) (by kernel_rfl) ?_
    refine tri_cond (b := (decide ((at_ xs0 k) < ((at_ xs1 k) + c)))) rfl (fun hc => ?_) (fun hc => ?_)
    · replace hc := of_decide_eq_true hc
      refine tri_seq ?_
      refine tri_reg mixed [.con (.int .u64 (at_ xs0 k)), .con (.int .u64 ((at_ xs0 k) + 4294967296)), .con (.int .u64 ((at_ xs0 k) + 4294967296))] [0, 1, 5, 7, 8, 9] [] [0] ?_ (by decide) ?_ ?_ _ _
      · kernel_rfl
      · exact ⟨pu, pw (wu64 (n := (at_ xs0 k) + 4294967296) (by omega)), pu, trivial⟩
      rintro p11 x11 u11 hg11 -
      replace h0 := h0.sub dLk hg11.1; replace h1 := h1.sub dLk hg11.1
      have hG11 := hG10.trans hg11
      refine next (g' := [(0, .slice A0 n0 c0), (1, .slice A1 n1 c1), (5, v), (7, .int .i64 (k : Int)), (8, .int .u64 ((at_ xs0 k) + 4294967296)), (9, .int .u64 ((at_ xs1 k) + c))]) (bx' := []) (rw' := [rowE dLk (v) 93 zs]) (by kernel_rfl) (by kernel_rfl) (by kernel_rfl) ?_
      refine tri_reg mixed [.con (.int .u64 1)] [0, 1, 5, 6, 7, 8, 9] [] [0] ?_ (by decide) ?_ ?_ _ _
      · kernel_rfl
      · exact ⟨pu, trivial⟩
      rintro p12 x12 u12 hg12 -
      replace h0 := h0.sub dLk hg12.1; replace h1 := h1.sub dLk hg12.1
      have hG12 := hG11.trans hg12
      refine next (g' := [(0, .slice A0 n0 c0), (1, .slice A1 n1 c1), (5, v), (6, .int .u64 1), (7, .int .i64 (k : Int)), (8, .int .u64 ((at_ xs0 k) + 4294967296)), (9, .int .u64 ((at_ xs1 k) + c))]) (bx' := []) (rw' := [rowE dLk (v) 93 zs]) (by kernel_rfl) (by kernel_rfl) (by kernel_rfl) ?_
      have hzl := hR.2.2.1
      refine tri_reg mixed [.con (v), .con (.int .u64 ((at_ xs0 k) + 4294967296)), .con (.int .u64 ((at_ xs1 k) + c)), .con (.int .u64 (((at_ xs0 k) + 4294967296) - ((at_ xs1 k) + c))), .con (.int .u32 (((at_ xs0 k) + 4294967296) - ((at_ xs1 k) + c))), .opq (fun u r => Sl dL u r [(((at_ xs0 k) + 4294967296) - ((at_ xs1 k) + c))]), .rop 0 (fun v => rowE dLk v 93 (zs ++ [(((at_ xs0 k) + 4294967296) - ((at_ xs1 k) + c))])), .cpy 6] [0, 1, 5, 6, 7] [] [0] ?_ (by decide) ?_ ?_ _ _
      · kernel_rfl
      · exact ⟨pu, pu, pu, pw (wu64 (n := ((at_ xs0 k) + 4294967296) - ((at_ xs1 k) + c)) (by omega)), pw (wu32 (n := (((at_ xs0 k) + 4294967296) - ((at_ xs1 k) + c))) (by omega)), bsL sl29, ap (hd := dLk) (bytes := 4) 0 5 sl29 (fun _ => rfl) rfl (by simp) (by simp only [List.length_cons, List.length_nil]; omega) (by decide), cp, trivial⟩
      rintro p13 x13 u13 hg13 ⟨q5, -⟩
      replace h0 := h0.sub dLk hg13.1; replace h1 := h1.sub dLk hg13.1
      have hG13 := hG12.trans hg13
      refine pn_blk ?_
      refine next (g' := [(0, .slice A0 n0 c0), (1, .slice A1 n1 c1), (5, x13 6), (6, .int .u64 1), (7, .int .i64 (k : Int))]) (bx' := []) (rw' := [rowE dLk (x13 6) 93 (zs ++ [(((at_ xs0 k) + 4294967296) - ((at_ xs1 k) + c))])]) (by kernel_rfl) (by kernel_rfl) (by kernel_rfl) ?_
      refine tri_reg mixed [.con (.int .i64 (k : Int)), .con (.int .i64 ((k : Int) + 1)), .con (.int .i64 ((k : Int) + 1))] [0, 1, 5, 6, 7] [] [0] ?_ (by decide) ?_ ?_ _ _
      · kernel_rfl
      · exact ⟨pu, pw (w64 (n := (k : Int) + 1) (by omega)), pu, trivial⟩
      rintro p14 x14 u14 hg14 -
      replace h0 := h0.sub dLk hg14.1; replace h1 := h1.sub dLk hg14.1
      have hG14 := hG13.trans hg14
      exact PN.sub (g' := [(0, .slice A0 n0 c0), (1, .slice A1 n1 c1), (5, (x13 6)), (6, .int .u64 1), (7, .int .i64 ((k + 1) : Int))]) (bx' := []) (rw' := [rowE dLk ((x13 6)) 93 (zs ++ [(((at_ xs0 k) + 4294967296) - ((at_ xs1 k) + c))])]) ⟨rfl, rfl, (by first | rfl | (simp)), rfl, (by first | rfl | (simp)), trivial⟩ rfl rfl (pn_at (m' := n0 - (k + 1)) (by omega) ⟨k + 1, 1, zs ++ [(((at_ xs0 k) + 4294967296) - ((at_ xs1 k) + c))], x13 6, rfl, (((((((((hg5).trans hg6).trans hg7).trans hg8).trans hg9).trans hg10).trans hg11).trans hg12).trans hg13).trans hg14, by omega, Mt.difI_step hR L0 L1 ((((at_ xs0 k) + 4294967296) - ((at_ xs1 k) + c))) 1 (by omega) (by omega) (by omega) (by omega) (by omega), rfl, rfl, rfl⟩)
    · replace hc := of_decide_eq_false hc
      refine tri_skip ?_
      refine next rfl rfl rfl ?_
      have hzl := hR.2.2.1
      refine tri_reg mixed [.con (v), .con (.int .u64 (at_ xs0 k)), .con (.int .u64 ((at_ xs1 k) + c)), .con (.int .u64 ((at_ xs0 k) - ((at_ xs1 k) + c))), .con (.int .u32 ((at_ xs0 k) - ((at_ xs1 k) + c))), .opq (fun u r => Sl dL u r [((at_ xs0 k) - ((at_ xs1 k) + c))]), .rop 0 (fun v => rowE dLk v 93 (zs ++ [((at_ xs0 k) - ((at_ xs1 k) + c))])), .cpy 6] [0, 1, 5, 6, 7] [] [0] ?_ (by decide) ?_ ?_ _ _
      · kernel_rfl
      · exact ⟨pu, pu, pu, pw (wu64 (n := (at_ xs0 k) - ((at_ xs1 k) + c)) (by omega)), pw (wu32 (n := ((at_ xs0 k) - ((at_ xs1 k) + c))) (by omega)), bsL sl29, ap (hd := dLk) (bytes := 4) 0 5 sl29 (fun _ => rfl) rfl (by simp) (by simp only [List.length_cons, List.length_nil]; omega) (by decide), cp, trivial⟩
      rintro p15 x15 u15 hg15 ⟨q5, -⟩
      replace h0 := h0.sub dLk hg15.1; replace h1 := h1.sub dLk hg15.1
      have hG15 := hG10.trans hg15
      refine pn_blk ?_
      refine next (g' := [(0, .slice A0 n0 c0), (1, .slice A1 n1 c1), (5, x15 6), (6, .int .u64 0), (7, .int .i64 (k : Int))]) (bx' := []) (rw' := [rowE dLk (x15 6) 93 (zs ++ [((at_ xs0 k) - ((at_ xs1 k) + c))])]) (by kernel_rfl) (by kernel_rfl) (by kernel_rfl) ?_
      refine tri_reg mixed [.con (.int .i64 (k : Int)), .con (.int .i64 ((k : Int) + 1)), .con (.int .i64 ((k : Int) + 1))] [0, 1, 5, 6, 7] [] [0] ?_ (by decide) ?_ ?_ _ _
      · kernel_rfl
      · exact ⟨pu, pw (w64 (n := (k : Int) + 1) (by omega)), pu, trivial⟩
      rintro p16 x16 u16 hg16 -
      replace h0 := h0.sub dLk hg16.1; replace h1 := h1.sub dLk hg16.1
      have hG16 := hG15.trans hg16
      exact PN.sub (g' := [(0, .slice A0 n0 c0), (1, .slice A1 n1 c1), (5, (x15 6)), (6, .int .u64 0), (7, .int .i64 ((k + 1) : Int))]) (bx' := []) (rw' := [rowE dLk ((x15 6)) 93 (zs ++ [((at_ xs0 k) - ((at_ xs1 k) + c))])]) ⟨rfl, rfl, (by first | rfl | (simp)), rfl, (by first | rfl | (simp)), trivial⟩ rfl rfl (pn_at (m' := n0 - (k + 1)) (by omega) ⟨k + 1, 0, zs ++ [((at_ xs0 k) - ((at_ xs1 k) + c))], x15 6, rfl, (((((((hg5).trans hg6).trans hg7).trans hg8).trans hg9).trans hg10).trans hg15).trans hg16, by omega, Mt.difI_step hR L0 L1 (((at_ xs0 k) - ((at_ xs1 k) + c))) 0 (by omega) (by omega) (by omega) (by omega) (by omega), rfl, rfl, rfl⟩)
  · replace hc := of_decide_eq_false hc
    refine tri_exit ?_
    repeat refine pn_then (by simp) ?_
    refine pn_ex ?_
    refine next rfl rfl rfl ?_
    refine tri_seq ?_
    have hzl := hR.2.2.1; have hzm := hR.2.2.2.1
    refine tri_freeze 0 (l := zs) rfl fun u18 hg18 hz => ?_
    replace h0 := h0.sub dLk hg18.1; replace h1 := h1.sub dLk hg18.1
    have hG18 := hG6.trans hg18
    refine tri_cast rfl rfl (rw' := []) rfl ?_
    have hv : val zs = ((M - N : Nat) : Int) := by rw [Mt.difI_end hR (by omega) L0 L1 (by rw [V0, V1]; omega), V0, V1]; omega
    refine tri_reg mixed [.con (v), .opq (fun u r => LCv u r (M - N)), .cpy 1] [4] [] [] ?_ (by decide) ?_ ?_ _ _
    · kernel_rfl
    · exact ⟨pu, ca (LCv.m _) fun f u w hs => (r01_NormV (Lv.of (b := a) (hz.sub dLk hs.old) hzm hv (by omega)) (by omega)), cp, trivial⟩
    rintro p17 x17 u17 hg17 ⟨q1, -⟩
    replace h0 := h0.sub dLk hg17.1; replace h1 := h1.sub dLk hg17.1; replace hz := hz.sub dLk hg17.1
    have hG17 := hG18.trans hg17
    obtain ⟨A17_1, n17_1, c17_1, e17_1, h17_1, l17_1, l17_1n, l17_1M⟩ := q1.open; rw [fun_upd (i := 1) e17_1]
    refine next (g' := [(4, .slice A17_1 n17_1 c17_1)]) (bx' := []) (rw' := []) (by kernel_rfl) (by kernel_rfl) (by kernel_rfl) ?_
    exact tri_ret (ret1 rfl (.slice A17_1 n17_1 c17_1) rfl hG17 (LCv.of h17_1))

set_option maxRecDepth 100000 in
theorem r01_Sub {u : World} {M N a b : Nat} {v0 : Value} {v1 : Value} (h0 : Lv u v0 M a) (h1 : Lv u v1 N b) (ha : a ≤ 8796093022208) (hb : b ≤ 8796093022208) (hle : N ≤ M) : Fn Try.prog 118 #[v0, v1] u (Tup2 (fun u r => LCv u r (M - N)) (Is (.int .i64 0))) := by
  obtain ⟨A0, n0, c0, xs0, rfl, h0, l0, b0, M0, L0, V0⟩ := h0.open
  obtain ⟨A1, n1, c1, xs1, rfl, h1, l1, b1, M1, L1, V1⟩ := h1.open
  refine fn_of (args := [_, _]) Try.func118 rfl (by show 2 ≤ 13; decide) ?_
  intro w0 hs0
  have hG0 := Gr.refl w0.heap.size u
  refine tri_seq ?_
  refine tri_reg mixed [.con (.slice none 0 0), .con (.int .i64 0)] [0, 1] [] [] ?_ (by decide) ?_ ?_ _ _
  · kernel_rfl
  · exact ⟨pu, pu, trivial⟩
  rintro p1 x1 u1 hg1 -
  replace h0 := h0.sub dLk hg1.1; replace h1 := h1.sub dLk hg1.1
  have hG1 := hG0.trans hg1
  refine next (g' := [(0, .slice A0 n0 c0), (1, .slice A1 n1 c1)]) (bx' := []) (rw' := []) (by kernel_rfl) (by kernel_rfl) (by kernel_rfl) ?_
  refine tri_seq ?_
  refine tri_seq ?_
  refine tri_reg mixed [.con (.slice A0 n0 c0), .con (.slice A1 n1 c1), .con (.int .i64 (sgnc (M : Nat) (N : Nat))), .con (.bool false)] [0, 1, 9] [] [] ?_ (by decide) ?_ ?_ _ _
  · kernel_rfl
  · exact ⟨pu, pu, cc fun f u w hs => (r01_Cmp (Lv.of (b := a) (h0.sub dLk hs.old) L0 V0 (by rw [l0]; exact b0)) (Lv.of (b := b) (h1.sub dLk hs.old) L1 V1 (by rw [l1]; exact b1)) (by omega) (by omega)), pw (bf (p := (sgnc (M : Nat) (N : Nat)) < 0) (by unfold sgnc; split <;> (try split) <;> omega)), trivial⟩
  rintro p2 x2 u2 hg2 -
  replace h0 := h0.sub dLk hg2.1; replace h1 := h1.sub dLk hg2.1
  have hG2 := hG1.trans hg2
  refine next (g' := [(0, .slice A0 n0 c0), (1, .slice A1 n1 c1), (9, .bool false)]) (bx' := []) (rw' := []) (by kernel_rfl) (by kernel_rfl) (by kernel_rfl) ?_
  refine tri_false rfl ?_
  refine tri_skip ?_
  refine next rfl rfl rfl ?_
  refine tri_seq ?_
  refine tri_reg mixed [.con (.slice A0 n0 c0), .con (.slice A1 n1 c1), .opq (fun u r => LCv u r (M - N)), .cpy 2, .con (.int .i64 0)] [4, 5] [] [] ?_ (by decide) ?_ ?_ _ _
  · kernel_rfl
  · exact ⟨pu, pu, ca (LCv.m _) fun f u w hs => (r01_less (Lv.of (b := a) (h0.sub dLk hs.old) L0 V0 (by rw [l0]; exact b0)) (Lv.of (b := b) (h1.sub dLk hs.old) L1 V1 (by rw [l1]; exact b1)) (by omega) (by omega) (by omega)), cp, pu, trivial⟩
  rintro p3 x3 u3 hg3 ⟨q2, -⟩
  replace h0 := h0.sub dLk hg3.1; replace h1 := h1.sub dLk hg3.1
  have hG3 := hG2.trans hg3
  obtain ⟨A3_2, n3_2, c3_2, e3_2, h3_2, l3_2, l3_2n, l3_2M⟩ := q2.open; rw [fun_upd (i := 2) e3_2]
  refine next (g' := [(4, .slice A3_2 n3_2 c3_2), (5, .int .i64 0)]) (bx' := []) (rw' := []) (by kernel_rfl) (by kernel_rfl) (by kernel_rfl) ?_
  exact tri_ret (ret2 rfl (.slice A3_2 n3_2 c3_2) (.int .i64 0) rfl rfl hG3 (⟨_, _, rfl, LCv.of h3_2, rfl⟩))

set_option maxRecDepth 100000 in
theorem r01_Mul {u : World} {M N a b : Nat} {v0 : Value} {v1 : Value} (h0 : Lv u v0 M a) (h1 : Lv u v1 N b) (ha : a ≤ 8796093022208) (hb : b ≤ 8796093022208) : Fn Try.prog 86 #[v0, v1] u (fun u r => LCv u r (M * N)) := by
  obtain ⟨A0, n0, c0, xs0, rfl, h0, l0, b0, M0, L0, V0⟩ := h0.open
  obtain ⟨A1, n1, c1, xs1, rfl, h1, l1, b1, M1, L1, V1⟩ := h1.open
  refine fn_of (args := [_, _]) Try.func86 rfl (by show 2 ≤ 68; decide) ?_
  intro w0 hs0
  have hG0 := Gr.refl w0.heap.size u
  refine tri_seq ?_
  refine tri_reg mixed [.con (.slice none 0 0)] [0, 1] [] [] ?_ (by decide) ?_ ?_ _ _
  · kernel_rfl
  · exact ⟨pu, trivial⟩
  rintro p1 x1 u1 hg1 -
  replace h0 := h0.sub dLk hg1.1; replace h1 := h1.sub dLk hg1.1
  have hG1 := hG0.trans hg1
  refine next (g' := [(0, .slice A0 n0 c0), (1, .slice A1 n1 c1)]) (bx' := []) (rw' := []) (by kernel_rfl) (by kernel_rfl) (by kernel_rfl) ?_
  refine tri_seq ?_
  refine tri_reg mixed [.con (.slice A0 n0 c0), .con (.int .i64 (n0 : Int)), .con (.slice A1 n1 c1), .con (.int .i64 (n1 : Int)), .con (.int .i64 ((n0 + n1 : Nat) : Int)), .mk (fun v => rowE dLk v 93 (List.replicate (n0 + n1) 0)), .cpy 5] [0, 1, 5] [] [5] ?_ (by decide) ?_ ?_ _ _
  · kernel_rfl
  · exact ⟨pu, pu, pu, pu, pw (w64 (n := (n0 : Int) + (n1 : Int)) (by omega)), mkL (n0 + n1) sl29.1 infoU32 (by omega), cp, trivial⟩
  rintro p2 x2 u2 hg2 -
  replace h0 := h0.sub dLk hg2.1; replace h1 := h1.sub dLk hg2.1
  have hG2 := hG1.trans hg2
  refine next (g' := [(0, .slice A0 n0 c0), (1, .slice A1 n1 c1), (5, x2 5)]) (bx' := []) (rw' := [rowE dLk (x2 5) 93 (List.replicate (n0 + n1) 0)]) (by kernel_rfl) (by kernel_rfl) (by kernel_rfl) ?_
  refine tri_seq ?_
  refine tri_seq ?_
  refine tri_reg mixed [.con (.int .i64 0)] [0, 1, 5, 6] [] [0] ?_ (by decide) ?_ ?_ _ _
  · kernel_rfl
  · exact ⟨pu, trivial⟩
  rintro p3 x3 u3 hg3 -
  replace h0 := h0.sub dLk hg3.1; replace h1 := h1.sub dLk hg3.1
  have hG3 := hG2.trans hg3
  refine next (g' := [(0, .slice A0 n0 c0), (1, .slice A1 n1 c1), (5, x2 5), (6, .int .i64 0)]) (bx' := []) (rw' := [rowE dLk (x2 5) 93 (List.replicate (n0 + n1) 0)]) (by kernel_rfl) (by kernel_rfl) (by kernel_rfl) ?_
  refine tri_block ?_
  refine tri_loop (fun m_ g_ bx_ rw_ u_ => ∃ (ri : Nat) (zs : List Int) (v : Value), (m_ = n0 - ri ∧ Gr w0.heap.size u3 u_ ∧ ri ≤ n0 ∧ Mt.mulO xs0 xs1 zs ri ∧ g_ = [(0, .slice A0 n0 c0), (1, .slice A1 n1 c1), (5, v), (6, .int .i64 (ri : Int))] ∧ bx_ = [] ∧ rw_ = [rowE dLk (v) 93 zs])) (n0 - 0) ⟨0, List.replicate (n0 + n1) 0, x2 5, rfl, Gr.refl _ _, Nat.zero_le _, by rw [← l0, ← l1]; exact Mt.mulO_start _ _, rfl, rfl, rfl⟩ ?_
  rintro m_ g_ bx_ rw_ u4 ⟨ri, zs, v, hm_, hg4, hi, hO, rfl, rfl, rfl⟩
  replace h0 := h0.sub dLk hg4.1; replace h1 := h1.sub dLk hg4.1
  have hG4 := hG3.trans hg4
  refine tri_seq ?_
  refine tri_seq ?_
  refine tri_reg mixed [.con (.int .i64 (ri : Int)), .con (.slice A0 n0 c0), .con (.int .i64 (n0 : Int)), .con (.bool (decide ((ri : Int) < (n0 : Int))))] [0, 1, 5, 6, 18] [] [0] ?_ (by decide) ?_ ?_ _ _
  · kernel_rfl
  · exact ⟨pu, pu, pu, pu, trivial⟩
  rintro p5 x5 u5 hg5 -
  replace h0 := h0.sub dLk hg5.1; replace h1 := h1.sub dLk hg5.1
  have hG5 := hG4.trans hg5
  refine next (g' := [(0, .slice A0 n0 c0), (1, .slice A1 n1 c1), (5, v), (6, .int .i64 (ri : Int)), (18, .bool (decide ((ri : Int) < (n0 : Int))))]) (bx' := []) (rw' := [rowE dLk (v) 93 zs]) (by kernel_rfl) (by kernel_rfl) (by kernel_rfl) ?_
  refine tri_cond (b := (decide ((ri : Int) < (n0 : Int)))) rfl (fun hc => ?_) (fun hc => ?_)
  · replace hc := of_decide_eq_true hc
    refine tri_skip ?_
    refine next rfl rfl rfl ?_
    refine tri_seq ?_
    refine tri_block ?_
    refine tri_seq ?_
    refine tri_reg mixed [.con (.int .u64 0)] [0, 1, 5, 6, 7] [] [0] ?_ (by decide) ?_ ?_ _ _
    · kernel_rfl
    · exact ⟨pu, trivial⟩
    rintro p6 x6 u6 hg6 -
    replace h0 := h0.sub dLk hg6.1; replace h1 := h1.sub dLk hg6.1
    have hG6 := hG5.trans hg6
    refine next (g' := [(0, .slice A0 n0 c0), (1, .slice A1 n1 c1), (5, v), (6, .int .i64 (ri : Int)), (7, .int .u64 0)]) (bx' := []) (rw' := [rowE dLk (v) 93 zs]) (by kernel_rfl) (by kernel_rfl) (by kernel_rfl) ?_
    refine tri_seq ?_
    refine tri_seq ?_
    refine tri_reg mixed [.con (.int .i64 0)] [0, 1, 5, 6, 7, 8] [] [0] ?_ (by decide) ?_ ?_ _ _
    · kernel_rfl
    · exact ⟨pu, trivial⟩
    rintro p7 x7 u7 hg7 -
    replace h0 := h0.sub dLk hg7.1; replace h1 := h1.sub dLk hg7.1
    have hG7 := hG6.trans hg7
    refine next (g' := [(0, .slice A0 n0 c0), (1, .slice A1 n1 c1), (5, v), (6, .int .i64 (ri : Int)), (7, .int .u64 0), (8, .int .i64 0)]) (bx' := []) (rw' := [rowE dLk (v) 93 zs]) (by kernel_rfl) (by kernel_rfl) (by kernel_rfl) ?_
    refine tri_block ?_
    refine tri_loop (fun m_ g_ bx_ rw_ u_ => ∃ (ci : Nat) (c : Int) (zs : List Int) (v : Value), (m_ = n1 - ci ∧ Gr w0.heap.size u7 u_ ∧ ci ≤ n1 ∧ Mt.mulI xs0 xs1 zs ri ci c ∧ g_ = [(0, .slice A0 n0 c0), (1, .slice A1 n1 c1), (5, v), (6, .int .i64 (ri : Int)), (7, .int .u64 c), (8, .int .i64 (ci : Int))] ∧ bx_ = [] ∧ rw_ = [rowE dLk (v) 93 zs])) (n1 - 0) ⟨0, 0, zs, v, rfl, Gr.refl _ _, Nat.zero_le _, Mt.mulI_start hO, rfl, rfl, rfl⟩ ?_
    rintro m_ g_ bx_ rw_ u8 ⟨ci, c, zs, v, hm_, hg8, hj, hI, rfl, rfl, rfl⟩
    replace h0 := h0.sub dLk hg8.1; replace h1 := h1.sub dLk hg8.1
    have hG8 := hG7.trans hg8
    have bx := L0.at_ ri; have bY := L1.at_ ci; have bz := hI.2.2.2.1.at_ (ri + ci); have bc := hI.1; have bd := hI.2.1; have hzl := hI.2.2.1
    have hm := Mt.mul_bd bx.1 bx.2 bY.1 bY.2
    refine tri_seq ?_
    refine tri_seq ?_
    refine tri_reg mixed [.con (.int .i64 (ci : Int)), .con (.slice A1 n1 c1), .con (.int .i64 (n1 : Int)), .con (.bool (decide ((ci : Int) < (n1 : Int))))] [0, 1, 5, 6, 7, 8, 24] [] [0] ?_ (by decide) ?_ ?_ _ _
    · kernel_rfl
    · exact ⟨pu, pu, pu, pu, trivial⟩
    rintro p9 x9 u9 hg9 -
    replace h0 := h0.sub dLk hg9.1; replace h1 := h1.sub dLk hg9.1
    have hG9 := hG8.trans hg9
    refine next (g' := [(0, .slice A0 n0 c0), (1, .slice A1 n1 c1), (5, v), (6, .int .i64 (ri : Int)), (7, .int .u64 c), (8, .int .i64 (ci : Int)), (24, .bool (decide ((ci : Int) < (n1 : Int))))]) (bx' := []) (rw' := [rowE dLk (v) 93 zs]) (by kernel_rfl) (by kernel_rfl) (by kernel_rfl) ?_
    refine tri_cond (b := (decide ((ci : Int) < (n1 : Int)))) rfl (fun hc => ?_) (fun hc => ?_)
    · replace hc := of_decide_eq_true hc
      refine tri_skip ?_
      refine next rfl rfl rfl ?_
      refine tri_seq ?_
      refine tri_block ?_
      refine tri_seq ?_
      obtain ⟨adx, x_, cs_, hAx, hx_, hcs_, hcellx⟩ := h0.at dLk ri (by omega)
      have hx_ : x_ = at_ xs0 ri := by unfold at_; rw [List.getD_eq_getElem?_getD, hx_]; rfl
      subst hx_; rw [show cs_ = _ from hcs_] at hcellx; clear hcs_
      obtain ⟨ady, x_, cs_, hAy, hx_, hcs_, hcelly⟩ := h1.at dLk ci (by omega)
      have hx_ : x_ = at_ xs1 ci := by unfold at_; rw [List.getD_eq_getElem?_getD, hx_]; rfl
      subst hx_; rw [show cs_ = _ from hcs_] at hcelly; clear hcs_
      refine tri_row 0 (hd := dLk) (l := zs) rfl fun A11 k11 e11 j11 i11 => ?_
      obtain ⟨b11, rfl⟩ := i11 (by omega)
      subst e11
      refine tri_reg mixed [.con (.int .u64 c), .con (.slice (some ⟨b11, 0, none⟩) zs.length k11), .con (.int .i64 (ri : Int)), .con (.int .i64 (ci : Int)), .con (.int .i64 ((ri + ci : Nat) : Int)), .con (.pointer (some ((⟨b11, 0, none⟩ : Addr).add ((((ri + ci : Nat) : Int) : Int).toNat * 1)))), .con (.int .u32 (at_ zs (ri + ci))), .con (.int .u64 (at_ zs (ri + ci))), .con (.int .u64 (c + (at_ zs (ri + ci)))), .con (.slice A0 n0 c0), .con (.int .i64 (ri : Int)), .con (.pointer (some (adx.add (((ri : Int) : Int).toNat * 1)))), .con (.int .u32 (at_ xs0 ri)), .con (.int .u64 (at_ xs0 ri)), .con (.slice A1 n1 c1), .con (.int .i64 (ci : Int)), .con (.pointer (some (ady.add (((ci : Int) : Int).toNat * 1)))), .con (.int .u32 (at_ xs1 ci)), .con (.int .u64 (at_ xs1 ci)), .con (.int .u64 ((at_ xs0 ri) * (at_ xs1 ci))), .con (.int .u64 ((c + (at_ zs (ri + ci))) + ((at_ xs0 ri) * (at_ xs1 ci)))), .con (.int .u64 ((c + (at_ zs (ri + ci))) + ((at_ xs0 ri) * (at_ xs1 ci))))] [0, 1, 5, 6, 7, 8] [] [0] ?_ (by decide) ?_ ?_ _ _
      · kernel_rfl
      · exact ⟨pu, pu, pu, pu, pw (w64 (n := (ri : Int) + (ci : Int)) (by omega)), ix (kk := .i64) (n := zs.length) (c := k11) sl29 rfl (by omega) (by omega), lrL (j := (ri + ci)) 0 ty93 (by omega) rfl, pw (wu64 (n := (at_ zs (ri + ci))) (by omega)), pw (wu64 (n := c + (at_ zs (ri + ci))) (by omega)), pu, pu, ix (kk := .i64) (n := n0) (c := c0) sl29 hAx (by omega) (by omega), li ty93 (vs := [.int .u32 (at_ xs0 ri)]) hcellx rfl, pw (wu64 (n := (at_ xs0 ri)) (by omega)), pu, pu, ix (kk := .i64) (n := n1) (c := c1) sl29 hAy (by omega) (by omega), li ty93 (vs := [.int .u32 (at_ xs1 ci)]) hcelly rfl, pw (wu64 (n := (at_ xs1 ci)) (by omega)), pw (wu64 (n := (at_ xs0 ri) * (at_ xs1 ci)) (by omega)), pw (wu64 (n := (c + (at_ zs (ri + ci))) + ((at_ xs0 ri) * (at_ xs1 ci))) (by omega)), pu, trivial⟩
      rintro p10 x10 u10 hg10 -
      replace h0 := h0.sub dLk hg10.1; replace h1 := h1.sub dLk hg10.1
      have hG10 := hG9.trans hg10
      refine next (g' := [(0, .slice A0 n0 c0), (1, .slice A1 n1 c1), (5, .slice (some ⟨b11, 0, none⟩) zs.length k11), (6, .int .i64 (ri : Int)), (7, .int .u64 ((c + (at_ zs (ri + ci))) + ((at_ xs0 ri) * (at_ xs1 ci)))), (8, .int .i64 (ci : Int))]) (bx' := []) (rw' := [rowE dLk (.slice (some ⟨b11, 0, none⟩) zs.length k11) 93 zs]) (by kernel_rfl) (by kernel_rfl) (by kernel_rfl) ?_
      refine tri_seq ?_
      refine tri_reg mixed [.con (.slice (some ⟨b11, 0, none⟩) zs.length k11), .con (.int .i64 (ri : Int)), .con (.int .i64 (ci : Int)), .con (.int .i64 ((ri + ci : Nat) : Int)), .con (.int .u64 ((c + (at_ zs (ri + ci))) + ((at_ xs0 ri) * (at_ xs1 ci)))), .con (.int .u64 (((c + (at_ zs (ri + ci))) + ((at_ xs0 ri) * (at_ xs1 ci))) % 4294967296)), .con (.int .u32 (((c + (at_ zs (ri + ci))) + ((at_ xs0 ri) * (at_ xs1 ci))) % 4294967296)), .con (.pointer (some ((⟨b11, 0, none⟩ : Addr).add ((((ri + ci : Nat) : Int) : Int).toNat * 1)))), .rst 0 (rowE dLk (.slice (some ⟨b11, 0, none⟩) zs.length k11) 93 (zs.set (ri + ci) (((c + (at_ zs (ri + ci))) + ((at_ xs0 ri) * (at_ xs1 ci))) % 4294967296)))] [0, 1, 5, 6, 7, 8] [] [0] ?_ (by decide) ?_ ?_ _ _
      · kernel_rfl
      · exact ⟨pu, pu, pu, pw (w64 (n := (ri : Int) + (ci : Int)) (by omega)), pu, pw (ru64 (n := ((c + (at_ zs (ri + ci))) + ((at_ xs0 ri) * (at_ xs1 ci)))) (d := 4294967296) (by omega)), pw (wu32 (n := (((c + (at_ zs (ri + ci))) + ((at_ xs0 ri) * (at_ xs1 ci))) % 4294967296)) (by omega)), ix (kk := .i64) (n := zs.length) (c := k11) sl29 rfl (by omega) (by omega), rsL (j := (ri + ci)) 0 ty93 (by omega) rfl rfl, trivial⟩
      rintro p12 x12 u12 hg12 -
      replace h0 := h0.sub dLk hg12.1; replace h1 := h1.sub dLk hg12.1
      have hG12 := hG10.trans hg12
      refine next (g' := [(0, .slice A0 n0 c0), (1, .slice A1 n1 c1), (5, .slice (some ⟨b11, 0, none⟩) zs.length k11), (6, .int .i64 (ri : Int)), (7, .int .u64 ((c + (at_ zs (ri + ci))) + ((at_ xs0 ri) * (at_ xs1 ci)))), (8, .int .i64 (ci : Int))]) (bx' := []) (rw' := [rowE dLk (.slice (some ⟨b11, 0, none⟩) zs.length k11) 93 (zs.set (ri + ci) (((c + (at_ zs (ri + ci))) + ((at_ xs0 ri) * (at_ xs1 ci))) % 4294967296))]) (by kernel_rfl) (by kernel_rfl) (by kernel_rfl) ?_
      refine tri_reg mixed [.con (.int .u64 ((c + (at_ zs (ri + ci))) + ((at_ xs0 ri) * (at_ xs1 ci)))), .con (.int .u64 (((c + (at_ zs (ri + ci))) + ((at_ xs0 ri) * (at_ xs1 ci))) / 4294967296)), .con (.int .u64 (((c + (at_ zs (ri + ci))) + ((at_ xs0 ri) * (at_ xs1 ci))) / 4294967296))] [0, 1, 5, 6, 7, 8] [] [0] ?_ (by decide) ?_ ?_ _ _
      · kernel_rfl
      · exact ⟨pu, pw (qu64 (n := ((c + (at_ zs (ri + ci))) + ((at_ xs0 ri) * (at_ xs1 ci)))) (d := 4294967296) (by omega)), pu, trivial⟩
      rintro p13 x13 u13 hg13 -
      replace h0 := h0.sub dLk hg13.1; replace h1 := h1.sub dLk hg13.1
      have hG13 := hG12.trans hg13
      refine pn_blk ?_
      refine next (g' := [(0, .slice A0 n0 c0), (1, .slice A1 n1 c1), (5, .slice (some ⟨b11, 0, none⟩) zs.length k11), (6, .int .i64 (ri : Int)), (7, .int .u64 (((c + (at_ zs (ri + ci))) + ((at_ xs0 ri) * (at_ xs1 ci))) / 4294967296)), (8, .int .i64 (ci : Int))]) (bx' := []) (rw' := [rowE dLk (.slice (some ⟨b11, 0, none⟩) zs.length k11) 93 (zs.set (ri + ci) (((c + (at_ zs (ri + ci))) + ((at_ xs0 ri) * (at_ xs1 ci))) % 4294967296))]) (by kernel_rfl) (by kernel_rfl) (by kernel_rfl) ?_
      refine tri_reg mixed [.con (.int .i64 (ci : Int)), .con (.int .i64 ((ci : Int) + 1)), .con (.int .i64 ((ci : Int) + 1))] [0, 1, 5, 6, 7, 8] [] [0] ?_ (by decide) ?_ ?_ _ _
      · kernel_rfl
      · exact ⟨pu, pw (w64 (n := (ci : Int) + 1) (by omega)), pu, trivial⟩
      rintro p14 x14 u14 hg14 -
      replace h0 := h0.sub dLk hg14.1; replace h1 := h1.sub dLk hg14.1
      have hG14 := hG13.trans hg14
      exact PN.sub (g' := [(0, .slice A0 n0 c0), (1, .slice A1 n1 c1), (5, (.slice (some ⟨b11, 0, none⟩) zs.length k11)), (6, .int .i64 (ri : Int)), (7, .int .u64 ((c + at_ zs (ri + ci) + at_ xs0 ri * at_ xs1 ci) / 4294967296)), (8, .int .i64 ((ci + 1) : Int))]) (bx' := []) (rw' := [rowE dLk ((.slice (some ⟨b11, 0, none⟩) zs.length k11)) 93 (zs.set (ri + ci) ((c + at_ zs (ri + ci) + at_ xs0 ri * at_ xs1 ci) % 4294967296))]) ⟨rfl, rfl, (by first | rfl | (simp)), rfl, (by first | rfl | (simp)), (by first | rfl | (simp)), trivial⟩ rfl rfl (pn_at (m' := n1 - (ci + 1)) (by omega) ⟨ci + 1, (c + at_ zs (ri + ci) + at_ xs0 ri * at_ xs1 ci) / 4294967296, zs.set (ri + ci) ((c + at_ zs (ri + ci) + at_ xs0 ri * at_ xs1 ci) % 4294967296), .slice (some ⟨b11, 0, none⟩) zs.length k11, rfl, (((((hg8).trans hg9).trans hg10).trans hg12).trans hg13).trans hg14, by omega, Mt.mulI_step hI (by omega) (by omega) L0 L1 rfl, rfl, rfl, rfl⟩)
    · replace hc := of_decide_eq_false hc
      refine tri_exit ?_
      repeat refine pn_then (by simp) ?_
      refine pn_ex ?_
      refine next rfl rfl rfl ?_
      have hci : ci = n1 := by omega
      refine tri_row 0 (hd := dLk) (l := zs) rfl fun A16 k16 e16 j16 i16 => ?_
      obtain ⟨b16, rfl⟩ := i16 (by omega)
      subst e16
      refine tri_reg mixed [.con (.slice (some ⟨b16, 0, none⟩) zs.length k16), .con (.int .i64 (ri : Int)), .con (.slice A1 n1 c1), .con (.int .i64 (n1 : Int)), .con (.int .i64 ((ri + n1 : Nat) : Int)), .con (.int .u64 c), .con (.int .u32 c), .con (.pointer (some ((⟨b16, 0, none⟩ : Addr).add ((((ri + n1 : Nat) : Int) : Int).toNat * 1)))), .rst 0 (rowE dLk (.slice (some ⟨b16, 0, none⟩) zs.length k16) 93 (zs.set (ri + n1) c))] [0, 1, 5, 6] [] [0] ?_ (by decide) ?_ ?_ _ _
      · kernel_rfl
      · exact ⟨pu, pu, pu, pu, pw (w64 (n := (ri : Int) + (n1 : Int)) (by omega)), pu, pw (wu32 (n := c) (by omega)), ix (kk := .i64) (n := zs.length) (c := k16) sl29 rfl (by omega) (by omega), rsL (j := (ri + n1)) 0 ty93 (by omega) rfl rfl, trivial⟩
      rintro p15 x15 u15 hg15 -
      replace h0 := h0.sub dLk hg15.1; replace h1 := h1.sub dLk hg15.1
      have hG15 := hG9.trans hg15
      refine pn_blk ?_
      refine next (g' := [(0, .slice A0 n0 c0), (1, .slice A1 n1 c1), (5, .slice (some ⟨b16, 0, none⟩) zs.length k16), (6, .int .i64 (ri : Int))]) (bx' := []) (rw' := [rowE dLk (.slice (some ⟨b16, 0, none⟩) zs.length k16) 93 (zs.set (ri + n1) c)]) (by kernel_rfl) (by kernel_rfl) (by kernel_rfl) ?_
      refine tri_reg mixed [.con (.int .i64 (ri : Int)), .con (.int .i64 ((ri : Int) + 1)), .con (.int .i64 ((ri : Int) + 1))] [0, 1, 5, 6] [] [0] ?_ (by decide) ?_ ?_ _ _
      · kernel_rfl
      · exact ⟨pu, pw (w64 (n := (ri : Int) + 1) (by omega)), pu, trivial⟩
      rintro p17 x17 u17 hg17 -
      replace h0 := h0.sub dLk hg17.1; replace h1 := h1.sub dLk hg17.1
      have hG17 := hG15.trans hg17
      exact PN.sub (g' := [(0, .slice A0 n0 c0), (1, .slice A1 n1 c1), (5, (.slice (some ⟨b16, 0, none⟩) zs.length k16)), (6, .int .i64 ((ri + 1) : Int))]) (bx' := []) (rw' := [rowE dLk ((.slice (some ⟨b16, 0, none⟩) zs.length k16)) 93 (zs.set (ri + n1) c)]) ⟨rfl, rfl, (by first | rfl | (simp)), (by first | rfl | (simp)), trivial⟩ rfl rfl (pn_at (m' := n0 - (ri + 1)) (by omega) ⟨ri + 1, zs.set (ri + n1) c, .slice (some ⟨b16, 0, none⟩) zs.length k16, rfl, (((((((hg4).trans hg5).trans hg6).trans hg7).trans hg8).trans hg9).trans hg15).trans hg17, by omega, by rw [← l1]; exact Mt.mulI_end (by rw [l1, ← hci]; exact hI) (by omega), rfl, rfl, rfl⟩)
  · replace hc := of_decide_eq_false hc
    refine tri_exit ?_
    repeat refine pn_then (by simp) ?_
    refine pn_ex ?_
    refine next rfl rfl rfl ?_
    refine tri_seq ?_
    have hv : val zs = ((M * N : Nat) : Int) := by rw [Mt.mulO_end hO (by omega), V0, V1]; simp
    have hzm := hO.2.1; have hzl := hO.1
    refine tri_freeze 0 (l := zs) rfl fun u19 hg19 hz => ?_
    replace h0 := h0.sub dLk hg19.1; replace h1 := h1.sub dLk hg19.1
    have hG19 := hG5.trans hg19
    refine tri_cast rfl rfl (rw' := []) rfl ?_
    refine tri_reg mixed [.con (v), .opq (fun u r => LCv u r (M * N)), .cpy 1] [4] [] [] ?_ (by decide) ?_ ?_ _ _
    · kernel_rfl
    · exact ⟨pu, ca (LCv.m _) fun f u w hs => (r01_NormV (Lv.of (b := (a + b)) (hz.sub dLk hs.old) hzm hv (by omega)) (by omega)), cp, trivial⟩
    rintro p18 x18 u18 hg18 ⟨q1, -⟩
    replace h0 := h0.sub dLk hg18.1; replace h1 := h1.sub dLk hg18.1; replace hz := hz.sub dLk hg18.1
    have hG18 := hG19.trans hg18
    obtain ⟨A18_1, n18_1, c18_1, e18_1, h18_1, l18_1, l18_1n, l18_1M⟩ := q1.open; rw [fun_upd (i := 1) e18_1]
    refine next (g' := [(4, .slice A18_1 n18_1 c18_1)]) (bx' := []) (rw' := []) (by kernel_rfl) (by kernel_rfl) (by kernel_rfl) ?_
    exact tri_ret (ret1 rfl (.slice A18_1 n18_1 c18_1) rfl hG18 (LCv.of h18_1))

set_option maxRecDepth 100000 in
theorem r01_small {u : World} {M a D : Nat} {v0 : Value} (h0 : Lv u v0 M a) (ha : a ≤ 8796093022208) (hD0 : 0 < D) (hD1 : D < 4294967296) : Fn Try.prog 166 #[v0, .int .u64 (D : Int)] u (Tup2 (fun u r => LCv u r (M / D)) (Is (.int .u64 ((M % D : Nat) : Int)))) := by
  obtain ⟨A0, n0, c0, xs0, rfl, h0, l0, b0, M0, L0, V0⟩ := h0.open
  refine fn_of (args := [_, _]) Try.func166 rfl (by show 2 ≤ 40; decide) ?_
  intro w0 hs0
  have hG0 := Gr.refl w0.heap.size u
  refine tri_seq ?_
  refine tri_reg mixed [.con (.slice none 0 0), .con (.int .u64 0)] [0, 1] [] [] ?_ (by decide) ?_ ?_ _ _
  · kernel_rfl
  · exact ⟨pu, pu, trivial⟩
  rintro p1 x1 u1 hg1 -
  replace h0 := h0.sub dLk hg1.1
  have hG1 := hG0.trans hg1
  refine next (g' := [(0, .slice A0 n0 c0), (1, .int .u64 (D : Int))]) (bx' := []) (rw' := []) (by kernel_rfl) (by kernel_rfl) (by kernel_rfl) ?_
  refine tri_seq ?_
  refine tri_reg mixed [.con (.slice A0 n0 c0), .con (.int .i64 (n0 : Int)), .mk (fun v => rowE dLk v 93 (List.replicate n0 0)), .cpy 2] [0, 1, 6] [] [2] ?_ (by decide) ?_ ?_ _ _
  · kernel_rfl
  · exact ⟨pu, pu, mkL n0 sl29.1 infoU32 (by omega), cp, trivial⟩
  rintro p2 x2 u2 hg2 -
  replace h0 := h0.sub dLk hg2.1
  have hG2 := hG1.trans hg2
  refine next (g' := [(0, .slice A0 n0 c0), (1, .int .u64 (D : Int)), (6, x2 2)]) (bx' := []) (rw' := [rowE dLk (x2 2) 93 (List.replicate n0 0)]) (by kernel_rfl) (by kernel_rfl) (by kernel_rfl) ?_
  refine tri_seq ?_
  refine tri_reg mixed [.con (.int .u64 0)] [0, 1, 6, 7] [] [0] ?_ (by decide) ?_ ?_ _ _
  · kernel_rfl
  · exact ⟨pu, trivial⟩
  rintro p3 x3 u3 hg3 -
  replace h0 := h0.sub dLk hg3.1
  have hG3 := hG2.trans hg3
  refine next (g' := [(0, .slice A0 n0 c0), (1, .int .u64 (D : Int)), (6, x2 2), (7, .int .u64 0)]) (bx' := []) (rw' := [rowE dLk (x2 2) 93 (List.replicate n0 0)]) (by kernel_rfl) (by kernel_rfl) (by kernel_rfl) ?_
  refine tri_seq ?_
  refine tri_seq ?_
  refine tri_reg mixed [.con (.slice A0 n0 c0), .con (.int .i64 (n0 : Int)), .con (.int .i64 ((n0 : Int) - 1)), .con (.int .i64 ((n0 : Int) - 1))] [0, 1, 6, 7, 8] [] [0] ?_ (by decide) ?_ ?_ _ _
  · kernel_rfl
  · exact ⟨pu, pu, pw (w64 (n := (n0 : Int) - 1) (by omega)), pu, trivial⟩
  rintro p4 x4 u4 hg4 -
  replace h0 := h0.sub dLk hg4.1
  have hG4 := hG3.trans hg4
  refine next (g' := [(0, .slice A0 n0 c0), (1, .int .u64 (D : Int)), (6, x2 2), (7, .int .u64 0), (8, .int .i64 ((n0 : Int) - 1))]) (bx' := []) (rw' := [rowE dLk (x2 2) 93 (List.replicate n0 0)]) (by kernel_rfl) (by kernel_rfl) (by kernel_rfl) ?_
  refine tri_block ?_
  refine tri_loop (fun m_ g_ bx_ rw_ u_ => ∃ (k : Nat) (r : Int) (zs : List Int) (v : Value), (m_ = k ∧ Gr w0.heap.size u4 u_ ∧ k ≤ n0 ∧ shortI (D : Int) xs0 zs k r ∧ g_ = [(0, .slice A0 n0 c0), (1, .int .u64 (D : Int)), (6, v), (7, .int .u64 r), (8, .int .i64 ((k : Int) - 1))] ∧ bx_ = [] ∧ rw_ = [rowE dLk (v) 93 zs])) (n0) ⟨n0, 0, List.replicate n0 0, x2 2, rfl, Gr.refl _ _, Nat.le_refl _, by rw [← l0]; exact shortI_start _ (by omega), rfl, rfl, rfl⟩ ?_
  rintro m_ g_ bx_ rw_ u5 ⟨k, r, zs, v, hm_, hg5, hk, hR, rfl, rfl, rfl⟩
  replace h0 := h0.sub dLk hg5.1
  have hG5 := hG4.trans hg5
  rcases Nat.eq_zero_or_pos k with hk0 | hk0
  · subst hk0
    refine tri_seq ?_
    refine tri_seq ?_
    refine tri_reg mixed [.con (.int .i64 (((0 : Nat) : Int) - 1)), .con (.bool false)] [0, 1, 6, 7, 8, 16] [] [0] ?_ (by decide) ?_ ?_ _ _
    · kernel_rfl
    · exact ⟨pu, pw (bf (p := 0 ≤ (((0 : Nat) : Int) - 1)) (by omega)), trivial⟩
    rintro p6 x6 u6 hg6 -
    replace h0 := h0.sub dLk hg6.1
    have hG6 := hG5.trans hg6
    refine next (g' := [(0, .slice A0 n0 c0), (1, .int .u64 (D : Int)), (6, v), (7, .int .u64 r), (8, .int .i64 (((0 : Nat) : Int) - 1)), (16, .bool false)]) (bx' := []) (rw' := [rowE dLk (v) 93 zs]) (by kernel_rfl) (by kernel_rfl) (by kernel_rfl) ?_
    refine tri_false rfl ?_
    refine tri_exit ?_
    repeat refine pn_then (by simp) ?_
    refine pn_ex ?_
    refine next rfl rfl rfl ?_
    refine tri_seq ?_
    have hE := shortI_end hR (by omega); have hzl := hR.len; have hzm := hR.lim
    refine tri_freeze 0 (l := zs) rfl fun u8 hg8 hz => ?_
    replace h0 := h0.sub dLk hg8.1
    have hG8 := hG6.trans hg8
    refine tri_cast rfl rfl (rw' := []) rfl ?_
    have hv : val zs = ((M / D : Nat) : Int) := by rw [hE.1, V0]; simp
    refine tri_sub (g' := [(0, .slice A0 n0 c0), (1, .int .u64 (D : Int)), (6, v), (7, .int .u64 ((M % D : Nat) : Int)), (8, .int .i64 (((0 : Nat) : Int) - 1)), (16, .bool false)]) ⟨rfl, rfl, rfl, (by first | rfl | (show some (Value.int .u64 _) = some (Value.int .u64 _); congr 2; rw [hE.2, V0]; simp)), rfl, rfl, trivial⟩ ?_
    refine tri_reg mixed [.con (v), .opq (fun u r => LCv u r (M / D)), .con (.int .u64 ((M % D : Nat) : Int)), .cpy 1, .con (.int .u64 ((M % D : Nat) : Int))] [4, 5] [] [] ?_ (by decide) ?_ ?_ _ _
    · kernel_rfl
    · exact ⟨pu, ca (LCv.m _) fun f u w hs => (r01_NormV (Lv.of (b := a) (hz.sub dLk hs.old) hzm hv (by omega)) (by omega)), pu, cp, pu, trivial⟩
    rintro p7 x7 u7 hg7 ⟨q1, -⟩
    replace h0 := h0.sub dLk hg7.1; replace hz := hz.sub dLk hg7.1
    have hG7 := hG8.trans hg7
    obtain ⟨A7_1, n7_1, c7_1, e7_1, h7_1, l7_1, l7_1n, l7_1M⟩ := q1.open; rw [fun_upd (i := 1) e7_1]
    refine next (g' := [(4, .slice A7_1 n7_1 c7_1), (5, .int .u64 ((M % D : Nat) : Int))]) (bx' := []) (rw' := []) (by kernel_rfl) (by kernel_rfl) (by kernel_rfl) ?_
    exact tri_ret (ret2 rfl (.slice A7_1 n7_1 c7_1) (.int .u64 ((M % D : Nat) : Int)) rfl rfl hG7 (⟨_, _, rfl, LCv.of h7_1, rfl⟩))
  · obtain ⟨m, rfl⟩ : ∃ m, k = m + 1 := ⟨k - 1, by omega⟩
    refine tri_sub (g' := [(0, .slice A0 n0 c0), (1, .int .u64 (D : Int)), (6, v), (7, .int .u64 r), (8, .int .i64 (m : Int))]) ⟨rfl, rfl, rfl, rfl, (by first | rfl | (show some (Value.int .i64 _) = some (Value.int .i64 _); congr 2; omega)), trivial⟩ ?_
    refine tri_seq ?_
    refine tri_seq ?_
    refine tri_reg mixed [.con (.int .i64 (m : Int)), .con (.bool true)] [0, 1, 6, 7, 8, 16] [] [0] ?_ (by decide) ?_ ?_ _ _
    · kernel_rfl
    · exact ⟨pu, pw (bt (p := 0 ≤ (m : Int)) (by omega)), trivial⟩
    rintro p9 x9 u9 hg9 -
    replace h0 := h0.sub dLk hg9.1
    have hG9 := hG5.trans hg9
    refine next (g' := [(0, .slice A0 n0 c0), (1, .int .u64 (D : Int)), (6, v), (7, .int .u64 r), (8, .int .i64 (m : Int)), (16, .bool true)]) (bx' := []) (rw' := [rowE dLk (v) 93 zs]) (by kernel_rfl) (by kernel_rfl) (by kernel_rfl) ?_
    refine tri_true rfl ?_
    refine tri_skip ?_
    refine next rfl rfl rfl ?_
    refine tri_seq ?_
    refine tri_block ?_
    refine tri_seq ?_
    obtain ⟨ad, x_, cs_, hA, hx_, hcs_, hcell⟩ := h0.at dLk m (by omega)
    have hx_ : x_ = at_ xs0 m := by unfold at_; rw [List.getD_eq_getElem?_getD, hx_]; rfl
    subst hx_; rw [show cs_ = _ from hcs_] at hcell; clear hcs_
    have bx := L0.at_ m; have br := hR.1; have bs := hR.2.1; have hzl := hR.len; have hq := shortI_bound br bs bx.1 bx.2; have hDD := Int.emod_lt_of_pos (r * 4294967296 + at_ xs0 m) (show (0 : Int) < D by omega)
    refine tri_reg mixed [.con (.int .u64 r), .con (.int .u64 (r * 4294967296)), .con (.slice A0 n0 c0), .con (.int .i64 (m : Int)), .con (.pointer (some (ad.add (((m : Int) : Int).toNat * 1)))), .con (.int .u32 (at_ xs0 m)), .con (.int .u64 (at_ xs0 m)), .con (.int .u64 ((r * 4294967296) + (at_ xs0 m))), .con (.int .u64 ((r * 4294967296) + (at_ xs0 m)))] [0, 1, 6, 7, 8] [] [0] ?_ (by decide) ?_ ?_ _ _
    · kernel_rfl
    · exact ⟨pu, pw (wu64 (n := r * 4294967296) (by omega)), pu, pu, ix (kk := .i64) (n := n0) (c := c0) sl29 hA (by omega) (by omega), li ty93 (vs := [.int .u32 (at_ xs0 m)]) hcell rfl, pw (wu64 (n := (at_ xs0 m)) (by omega)), pw (wu64 (n := (r * 4294967296) + (at_ xs0 m)) (by omega)), pu, trivial⟩
    rintro p10 x10 u10 hg10 -
    replace h0 := h0.sub dLk hg10.1
    have hG10 := hG9.trans hg10
    refine next (g' := [(0, .slice A0 n0 c0), (1, .int .u64 (D : Int)), (6, v), (7, .int .u64 ((r * 4294967296) + (at_ xs0 m))), (8, .int .i64 (m : Int))]) (bx' := []) (rw' := [rowE dLk (v) 93 zs]) (by kernel_rfl) (by kernel_rfl) (by kernel_rfl) ?_
    refine tri_seq ?_
    refine tri_row 0 (hd := dLk) (l := zs) rfl fun A12 k12 e12 j12 i12 => ?_
    obtain ⟨b12, rfl⟩ := i12 (by omega)
    subst e12
    refine tri_reg mixed [.con (.slice (some ⟨b12, 0, none⟩) zs.length k12), .con (.int .i64 (m : Int)), .con (.int .u64 ((r * 4294967296) + (at_ xs0 m))), .con (.int .u64 (D : Int)), .con (.int .u64 ((r * 4294967296 + at_ xs0 m) / (D : Int))), .con (.int .u32 ((r * 4294967296 + at_ xs0 m) / (D : Int))), .con (.pointer (some ((⟨b12, 0, none⟩ : Addr).add (((m : Int) : Int).toNat * 1)))), .rst 0 (rowE dLk (.slice (some ⟨b12, 0, none⟩) zs.length k12) 93 (zs.set m ((r * 4294967296 + at_ xs0 m) / (D : Int))))] [0, 1, 6, 7, 8] [] [0] ?_ (by decide) ?_ ?_ _ _
    · kernel_rfl
    · exact ⟨pu, pu, pu, pu, oq (by omega) (qu64 (n := (r * 4294967296 + at_ xs0 m)) (d := (D : Int)) (by omega)), pw (wu32 (n := ((r * 4294967296 + at_ xs0 m) / (D : Int))) (by omega)), ix (kk := .i64) (n := zs.length) (c := k12) sl29 rfl (by omega) (by omega), rsL (j := m) 0 ty93 (by omega) rfl rfl, trivial⟩
    rintro p11 x11 u11 hg11 -
    replace h0 := h0.sub dLk hg11.1
    have hG11 := hG10.trans hg11
    refine next (g' := [(0, .slice A0 n0 c0), (1, .int .u64 (D : Int)), (6, .slice (some ⟨b12, 0, none⟩) zs.length k12), (7, .int .u64 ((r * 4294967296) + (at_ xs0 m))), (8, .int .i64 (m : Int))]) (bx' := []) (rw' := [rowE dLk (.slice (some ⟨b12, 0, none⟩) zs.length k12) 93 (zs.set m ((r * 4294967296 + at_ xs0 m) / (D : Int)))]) (by kernel_rfl) (by kernel_rfl) (by kernel_rfl) ?_
    refine tri_reg mixed [.con (.int .u64 ((r * 4294967296) + (at_ xs0 m))), .con (.int .u64 (D : Int)), .con (.int .u64 ((r * 4294967296 + at_ xs0 m) % (D : Int))), .con (.int .u64 ((r * 4294967296 + at_ xs0 m) % (D : Int)))] [0, 1, 6, 7, 8] [] [0] ?_ (by decide) ?_ ?_ _ _
    · kernel_rfl
    · exact ⟨pu, pu, om (by omega) (ru64 (n := (r * 4294967296 + at_ xs0 m)) (d := (D : Int)) (by omega)), pu, trivial⟩
    rintro p13 x13 u13 hg13 -
    replace h0 := h0.sub dLk hg13.1
    have hG13 := hG11.trans hg13
    refine pn_blk ?_
    refine next (g' := [(0, .slice A0 n0 c0), (1, .int .u64 (D : Int)), (6, .slice (some ⟨b12, 0, none⟩) zs.length k12), (7, .int .u64 ((r * 4294967296 + at_ xs0 m) % (D : Int))), (8, .int .i64 (m : Int))]) (bx' := []) (rw' := [rowE dLk (.slice (some ⟨b12, 0, none⟩) zs.length k12) 93 (zs.set m ((r * 4294967296 + at_ xs0 m) / (D : Int)))]) (by kernel_rfl) (by kernel_rfl) (by kernel_rfl) ?_
    refine tri_reg mixed [.con (.int .i64 (m : Int)), .con (.int .i64 ((m : Int) - 1)), .con (.int .i64 ((m : Int) - 1))] [0, 1, 6, 7, 8] [] [0] ?_ (by decide) ?_ ?_ _ _
    · kernel_rfl
    · exact ⟨pu, pw (w64 (n := (m : Int) - 1) (by omega)), pu, trivial⟩
    rintro p14 x14 u14 hg14 -
    replace h0 := h0.sub dLk hg14.1
    have hG14 := hG13.trans hg14
    exact PN.sub (g' := [(0, .slice A0 n0 c0), (1, .int .u64 (D : Int)), (6, (.slice (some ⟨b12, 0, none⟩) zs.length k12)), (7, .int .u64 ((r * 4294967296 + at_ xs0 m) % D)), (8, .int .i64 ((m : Int) - 1))]) (bx' := []) (rw' := [rowE dLk ((.slice (some ⟨b12, 0, none⟩) zs.length k12)) 93 (zs.set m ((r * 4294967296 + at_ xs0 m) / D))]) ⟨rfl, rfl, (by first | rfl | (simp)), (by first | rfl | (simp)), rfl, trivial⟩ rfl rfl (pn_at (m' := m) (by omega) ⟨m, (r * 4294967296 + at_ xs0 m) % D, zs.set m ((r * 4294967296 + at_ xs0 m) / D), .slice (some ⟨b12, 0, none⟩) zs.length k12, rfl, (((((hg5).trans hg9).trans hg10).trans hg11).trans hg13).trans hg14, by omega, shortI_step hR (by omega) L0 _ rfl, rfl, rfl, rfl⟩)

set_option maxRecDepth 100000 in
theorem r01_Bits {u : World} {M a : Nat} {v0 : Value} (h0 : Lv u v0 M a) (ha : a ≤ 8796093022208) : Fn Try.prog 142 #[v0] u (Is (.int .i64 (nbits M : Nat))) := by
  obtain ⟨A0, n0, c0, xs0, rfl, h0, l0, b0, M0, L0, V0⟩ := h0.open
  refine fn_of (args := [_]) Try.func142 rfl (by show 1 ≤ 31; decide) ?_
  intro w0 hs0
  have hG0 := Gr.refl w0.heap.size u
  refine tri_seq ?_
  refine tri_reg mixed [.con (.int .i64 0)] [0] [] [] ?_ (by decide) ?_ ?_ _ _
  · kernel_rfl
  · exact ⟨pu, trivial⟩
  rintro p1 x1 u1 hg1 -
  replace h0 := h0.sub dLk hg1.1
  have hG1 := hG0.trans hg1
  refine next (g' := [(0, .slice A0 n0 c0)]) (bx' := []) (rw' := []) (by kernel_rfl) (by kernel_rfl) (by kernel_rfl) ?_
  refine tri_seq ?_
  refine tri_seq ?_
  refine tri_reg mixed [.con (.slice A0 n0 c0), .con (.int .i64 (n0 : Int)), .con (.int .i64 ((n0 : Int) - 1)), .con (.int .i64 ((n0 : Int) - 1))] [0, 3] [] [] ?_ (by decide) ?_ ?_ _ _
  · kernel_rfl
  · exact ⟨pu, pu, pw (w64 (n := (n0 : Int) - 1) (by omega)), pu, trivial⟩
  rintro p2 x2 u2 hg2 -
  replace h0 := h0.sub dLk hg2.1
  have hG2 := hG1.trans hg2
  refine next (g' := [(0, .slice A0 n0 c0), (3, .int .i64 ((n0 : Int) - 1))]) (bx' := []) (rw' := []) (by kernel_rfl) (by kernel_rfl) (by kernel_rfl) ?_
  refine tri_block ?_
  refine tri_loop (fun m_ g_ bx_ rw_ u_ => ∃ (k : Nat), (m_ = k ∧ Gr w0.heap.size u2 u_ ∧ k ≤ n0 ∧ tl xs0 k = tl xs0 n0 ∧ g_ = [(0, .slice A0 n0 c0), (3, .int .i64 ((k : Int) - 1))] ∧ bx_ = [] ∧ rw_ = [])) (n0) ⟨n0, rfl, Gr.refl _ _, Nat.le_refl _, rfl, rfl, rfl, rfl⟩ ?_
  rintro m_ g_ bx_ rw_ u3 ⟨k, hm_, hg3, hk, ht, rfl, rfl, rfl⟩
  replace h0 := h0.sub dLk hg3.1
  have hG3 := hG2.trans hg3
  rcases Nat.eq_zero_or_pos k with hk0 | hk0
  · subst hk0
    refine tri_seq ?_
    refine tri_seq ?_
    refine tri_reg mixed [.con (.int .i64 (((0 : Nat) : Int) - 1)), .con (.bool false)] [0, 3, 10] [] [] ?_ (by decide) ?_ ?_ _ _
    · kernel_rfl
    · exact ⟨pu, pw (bf (p := 0 ≤ (((0 : Nat) : Int) - 1)) (by omega)), trivial⟩
    rintro p4 x4 u4 hg4 -
    replace h0 := h0.sub dLk hg4.1
    have hG4 := hG3.trans hg4
    refine next (g' := [(0, .slice A0 n0 c0), (3, .int .i64 (((0 : Nat) : Int) - 1)), (10, .bool false)]) (bx' := []) (rw' := []) (by kernel_rfl) (by kernel_rfl) (by kernel_rfl) ?_
    refine tri_false rfl ?_
    refine tri_exit ?_
    repeat refine pn_then (by simp) ?_
    refine pn_ex ?_
    refine next rfl rfl rfl ?_
    refine tri_seq ?_
    refine tri_reg mixed [.con (.int .i64 0)] [2] [] [] ?_ (by decide) ?_ ?_ _ _
    · kernel_rfl
    · exact ⟨pu, trivial⟩
    rintro p5 x5 u5 hg5 -
    replace h0 := h0.sub dLk hg5.1
    have hG5 := hG4.trans hg5
    refine next (g' := [(2, .int .i64 0)]) (bx' := []) (rw' := []) (by kernel_rfl) (by kernel_rfl) (by kernel_rfl) ?_
    exact tri_ret (ret1 rfl (.int .i64 0) rfl hG5 (by show Value.int .i64 _ = _; rw [Mt.bits_zero L0 (by rw [← l0] at ht; exact ht) V0]; rfl))
  · obtain ⟨m, rfl⟩ : ∃ m, k = m + 1 := ⟨k - 1, by omega⟩
    refine tri_sub (g' := [(0, .slice A0 n0 c0), (3, .int .i64 (m : Int))]) ⟨rfl, (by first | rfl | (show some (Value.int .i64 _) = some (Value.int .i64 _); congr 2; omega)), trivial⟩ ?_
    refine tri_seq ?_
    refine tri_seq ?_
    refine tri_reg mixed [.con (.int .i64 (m : Int)), .con (.bool true)] [0, 3, 10] [] [] ?_ (by decide) ?_ ?_ _ _
    · kernel_rfl
    · exact ⟨pu, pw (bt (p := 0 ≤ (m : Int)) (by omega)), trivial⟩
    rintro p6 x6 u6 hg6 -
    replace h0 := h0.sub dLk hg6.1
    have hG6 := hG3.trans hg6
    refine next (g' := [(0, .slice A0 n0 c0), (3, .int .i64 (m : Int)), (10, .bool true)]) (bx' := []) (rw' := []) (by kernel_rfl) (by kernel_rfl) (by kernel_rfl) ?_
    refine tri_true rfl ?_
    refine tri_skip ?_
    refine next rfl rfl rfl ?_
    refine tri_seq ?_
    refine tri_block ?_
    refine tri_seq ?_
    obtain ⟨ad, x_, cs_, hA, hx_, hcs_, hcell⟩ := h0.at dLk m (by omega)
    have hx_ : x_ = at_ xs0 m := by unfold at_; rw [List.getD_eq_getElem?_getD, hx_]; rfl
    subst hx_; rw [show cs_ = _ from hcs_] at hcell; clear hcs_
    have bx := L0.at_ m
    refine tri_reg mixed [.con (.slice A0 n0 c0), .con (.int .i64 (m : Int)), .con (.pointer (some (ad.add (((m : Int) : Int).toNat * 1)))), .con (.int .u32 (at_ xs0 m)), .con (.bool ((at_ xs0 m) != 0))] [0, 3, 17] [] [] ?_ (by decide) ?_ ?_ _ _
    · kernel_rfl
    · exact ⟨pu, pu, ix (kk := .i64) (n := n0) (c := c0) sl29 hA (by omega) (by omega), li ty93 (vs := [.int .u32 (at_ xs0 m)]) hcell rfl, pu, trivial⟩
    rintro p7 x7 u7 hg7 -
    replace h0 := h0.sub dLk hg7.1
    have hG7 := hG6.trans hg7
    refine next (g' := [(0, .slice A0 n0 c0), (3, .int .i64 (m : Int)), (17, .bool ((at_ xs0 m) != 0))]) (bx' := []) (rw' := []) (by kernel_rfl) (by kernel_rfl) (by kernel_rfl) ?_
    refine tri_cond (b := ((at_ xs0 m) != 0)) rfl (fun hc => ?_) (fun hc => ?_)
    · replace hc := bne_iff_ne.1 hc
      refine tri_seq ?_
      have hB := Mt.bits_of L0 (by omega) (by rw [ht, l0]) hc V0
      refine tri_reg mixed [.con (.int .i64 (m : Int)), .con (.int .i64 ((32 * m : Nat) : Int)), .con (.int .i64 ((32 * m : Nat) : Int))] [0, 3, 4] [] [] ?_ (by decide) ?_ ?_ _ _
      · kernel_rfl
      · exact ⟨pu, pw (w64 (n := 32 * (m : Int)) (by omega)), pu, trivial⟩
      rintro p8 x8 u8 hg8 -
      replace h0 := h0.sub dLk hg8.1
      have hG8 := hG7.trans hg8
      refine next (g' := [(0, .slice A0 n0 c0), (3, .int .i64 (m : Int)), (4, .int .i64 ((32 * m : Nat) : Int))]) (bx' := []) (rw' := []) (by kernel_rfl) (by kernel_rfl) (by kernel_rfl) ?_
      refine tri_seq ?_
      refine tri_seq ?_
      obtain ⟨adq, x_, cs_, hAq, hx_, hcs_, hcellq⟩ := h0.at dLk m (by omega)
      have hx_ : x_ = at_ xs0 m := by unfold at_; rw [List.getD_eq_getElem?_getD, hx_]; rfl
      subst hx_; rw [show cs_ = _ from hcs_] at hcellq; clear hcs_
      refine tri_reg mixed [.con (.slice A0 n0 c0), .con (.int .i64 (m : Int)), .con (.pointer (some (adq.add (((m : Int) : Int).toNat * 1)))), .con (.int .u32 (at_ xs0 m)), .con (.int .u32 (at_ xs0 m))] [4, 5] [] [] ?_ (by decide) ?_ ?_ _ _
      · kernel_rfl
      · exact ⟨pu, pu, ix (kk := .i64) (n := n0) (c := c0) sl29 hAq (by omega) (by omega), li ty93 (vs := [.int .u32 (at_ xs0 m)]) hcellq rfl, pu, trivial⟩
      rintro p9 x9 u9 hg9 -
      replace h0 := h0.sub dLk hg9.1
      have hG9 := hG8.trans hg9
      refine next (g' := [(4, .int .i64 ((32 * m : Nat) : Int)), (5, .int .u32 (at_ xs0 m))]) (bx' := []) (rw' := []) (by kernel_rfl) (by kernel_rfl) (by kernel_rfl) ?_
      have hw32 := nbits_le (n := (at_ xs0 m).toNat) (k := 32) (by omega)
      refine tri_sub (g' := [(4, .int .i64 ((32 * m : Nat) : Int)), (5, .int .u32 (((at_ xs0 m).toNat : Nat) : Int))]) ⟨rfl, (by first | rfl | (show some (Value.int _ _) = some (Value.int _ _); congr 2; omega)), trivial⟩ ?_
      refine tri_block ?_
      refine tri_loop (fun m_ g_ bx_ rw_ u_ => ∃ (n : Nat) (w : Nat), (m_ = w ∧ Gr w0.heap.size u9 u_ ∧ n + nbits w = 32 * m + nbits (at_ xs0 m).toNat ∧ w < 4294967296 ∧ g_ = [(4, .int .i64 (n : Int)), (5, .int .u32 (w : Int))] ∧ bx_ = [] ∧ rw_ = [])) (((at_ xs0 m).toNat)) ⟨32 * m, (at_ xs0 m).toNat, rfl, Gr.refl _ _, rfl, by omega, rfl, rfl, rfl⟩ ?_
      rintro m_ g_ bx_ rw_ u10 ⟨n, w, hm_, hg10, hw, hwb, rfl, rfl, rfl⟩
      have hG10 := hG9.trans hg10
      have hw2 := fun h : 0 < w => Mt.nbits_half h; have hnb := nbits_le (n := w) (k := 32) (by omega)
      refine tri_seq ?_
      refine tri_seq ?_
      refine tri_reg mixed [.con (.int .u32 (w : Int)), .con (.bool (decide (0 < (w : Int))))] [4, 5, 25] [] [] ?_ (by decide) ?_ ?_ _ _
      · kernel_rfl
      · exact ⟨pu, pu, trivial⟩
      rintro p11 x11 u11 hg11 -
      have hG11 := hG10.trans hg11
      refine next (g' := [(4, .int .i64 (n : Int)), (5, .int .u32 (w : Int)), (25, .bool (decide (0 < (w : Int))))]) (bx' := []) (rw' := []) (by kernel_rfl) (by kernel_rfl) (by kernel_rfl) ?_
      refine tri_cond (b := (decide (0 < (w : Int)))) rfl (fun hc => ?_) (fun hc => ?_)
      · replace hc := of_decide_eq_true hc
        refine tri_skip ?_
        refine next rfl rfl rfl ?_
        refine tri_seq ?_
        refine tri_block ?_
        refine tri_reg mixed [.con (.int .i64 (n : Int)), .con (.int .i64 ((n + 1 : Nat) : Int)), .con (.int .i64 ((n + 1 : Nat) : Int))] [4, 5] [] [] ?_ (by decide) ?_ ?_ _ _
        · kernel_rfl
        · exact ⟨pu, pw (w64 (n := (n : Int) + 1) (by omega)), pu, trivial⟩
        rintro p12 x12 u12 hg12 -
        have hG12 := hG11.trans hg12
        refine pn_blk ?_
        refine next (g' := [(4, .int .i64 ((n + 1 : Nat) : Int)), (5, .int .u32 (w : Int))]) (bx' := []) (rw' := []) (by kernel_rfl) (by kernel_rfl) (by kernel_rfl) ?_
        refine tri_reg mixed [.con (.int .u32 (w : Int)), .con (.int .u32 ((w / 2 : Nat) : Int)), .con (.int .u32 ((w / 2 : Nat) : Int))] [4, 5] [] [] ?_ (by decide) ?_ ?_ _ _
        · kernel_rfl
        · exact ⟨pu, pw (qu32 (n := (w : Int)) (d := 2) (by omega)), pu, trivial⟩
        rintro p13 x13 u13 hg13 -
        have hG13 := hG12.trans hg13
        exact PN.sub (g' := [(4, .int .i64 ((n + 1) : Int)), (5, .int .u32 ((w / 2) : Int))]) (bx' := []) (rw' := []) ⟨(by first | rfl | (simp)), (by first | rfl | (simp)), trivial⟩ rfl rfl (pn_at (m' := (w / 2)) (by omega) ⟨n + 1, w / 2, rfl, (((hg10).trans hg11).trans hg12).trans hg13, by have := hw2 (by omega); omega, by omega, rfl, rfl, rfl⟩)
      · replace hc := of_decide_eq_false hc
        refine tri_exit ?_
        repeat refine pn_then (by simp) ?_
        refine pn_ex ?_
        refine next rfl rfl rfl ?_
        refine tri_seq ?_
        refine tri_reg mixed [.con (.int .i64 (n : Int)), .con (.int .i64 (n : Int))] [2] [] [] ?_ (by decide) ?_ ?_ _ _
        · kernel_rfl
        · exact ⟨pu, pu, trivial⟩
        rintro p14 x14 u14 hg14 -
        have hG14 := hG11.trans hg14
        refine next (g' := [(2, .int .i64 (n : Int))]) (bx' := []) (rw' := []) (by kernel_rfl) (by kernel_rfl) (by kernel_rfl) ?_
        exact tri_ret (ret1 rfl (.int .i64 (n : Int)) rfl hG14 (by show Value.int .i64 _ = _; congr 1; rw [hB, ← hw, show w = 0 by omega]; rfl))
    · replace hc := bne_eq_false_iff_eq.1 hc
      refine tri_skip ?_
      refine pn_blk ?_
      refine next rfl rfl rfl ?_
      refine tri_reg mixed [.con (.int .i64 (m : Int)), .con (.int .i64 ((m : Int) - 1)), .con (.int .i64 ((m : Int) - 1))] [0, 3] [] [] ?_ (by decide) ?_ ?_ _ _
      · kernel_rfl
      · exact ⟨pu, pw (w64 (n := (m : Int) - 1) (by omega)), pu, trivial⟩
      rintro p15 x15 u15 hg15 -
      replace h0 := h0.sub dLk hg15.1
      have hG15 := hG7.trans hg15
      exact PN.sub (g' := [(0, .slice A0 n0 c0), (3, .int .i64 ((m : Int) - 1))]) (bx' := []) (rw' := []) ⟨rfl, rfl, trivial⟩ rfl rfl (pn_at (m' := m) (by omega) ⟨m, rfl, (((hg3).trans hg6).trans hg7).trans hg15, by omega, by rw [← ht]; simp [tl, hc], rfl, rfl, rfl⟩)

set_option maxRecDepth 100000 in
theorem r01_Two {u : World} {n : Nat}   (hn : n ≤ 281474976710656) : Fn Try.prog 87 #[.int .i64 (n : Int)] u (fun u r => LCv u r (2 ^ n)) := by
  refine fn_of (args := [_]) Try.func87 rfl (by show 1 ≤ 21; decide) ?_
  intro w0 hs0
  have hG0 := Gr.refl w0.heap.size u
  refine tri_seq ?_
  refine tri_reg mixed [.con (.slice none 0 0)] [0] [] [] ?_ (by decide) ?_ ?_ _ _
  · kernel_rfl
  · exact ⟨pu, trivial⟩
  rintro p1 x1 u1 hg1 -
  have hG1 := hG0.trans hg1
  refine next (g' := [(0, .int .i64 (n : Int))]) (bx' := []) (rw' := []) (by kernel_rfl) (by kernel_rfl) (by kernel_rfl) ?_
  refine tri_seq ?_
  refine tri_reg mixed [.con (.slice none 0 0)] [0, 3] [] [] ?_ (by decide) ?_ ?_ _ _
  · kernel_rfl
  · exact ⟨pu, trivial⟩
  rintro p2 x2 u2 hg2 -
  have hG2 := hG1.trans hg2
  refine next (g' := [(0, .int .i64 (n : Int)), (3, .slice none 0 0)]) (bx' := []) (rw' := []) (by kernel_rfl) (by kernel_rfl) (by kernel_rfl) ?_
  refine tri_seq ?_
  refine tri_seq ?_
  refine tri_nil dLk 93 ?_
  refine tri_reg mixed [.con (.int .i64 0)] [0, 3, 4] [] [0] ?_ (by decide) ?_ ?_ _ _
  · kernel_rfl
  · exact ⟨pu, trivial⟩
  rintro p3 x3 u3 hg3 -
  have hG3 := hG2.trans hg3
  refine next (g' := [(0, .int .i64 (n : Int)), (3, .slice none 0 0), (4, .int .i64 0)]) (bx' := []) (rw' := [rowE dLk (.slice none 0 0) 93 []]) (by kernel_rfl) (by kernel_rfl) (by kernel_rfl) ?_
  refine tri_block ?_
  refine tri_loop (fun m_ g_ bx_ rw_ u_ => ∃ (k : Nat) (v : Value), (m_ = n / 32 - k ∧ Gr w0.heap.size u3 u_ ∧ k ≤ n / 32 ∧ g_ = [(0, .int .i64 (n : Int)), (3, v), (4, .int .i64 (k : Int))] ∧ bx_ = [] ∧ rw_ = [rowE dLk (v) 93 (List.replicate k 0)])) (n / 32 - 0) ⟨0, .slice none 0 0, rfl, Gr.refl _ _, Nat.zero_le _, rfl, rfl, rfl⟩ ?_
  rintro m_ g_ bx_ rw_ u4 ⟨k, v, hm_, hg4, hk, rfl, rfl, rfl⟩
  have hG4 := hG3.trans hg4
  refine tri_seq ?_
  refine tri_seq ?_
  refine tri_reg mixed [.con (.int .i64 (k : Int)), .con (.int .i64 (n : Int)), .con (.int .i64 ((n / 32 : Nat) : Int)), .con (.bool (decide ((k : Int) < ((n / 32 : Nat) : Int))))] [0, 3, 4, 8] [] [0] ?_ (by decide) ?_ ?_ _ _
  · kernel_rfl
  · exact ⟨pu, pu, pw (q64 (n := (n : Int)) (d := 32) (by omega)), pu, trivial⟩
  rintro p5 x5 u5 hg5 -
  have hG5 := hG4.trans hg5
  refine next (g' := [(0, .int .i64 (n : Int)), (3, v), (4, .int .i64 (k : Int)), (8, .bool (decide ((k : Int) < ((n / 32 : Nat) : Int))))]) (bx' := []) (rw' := [rowE dLk (v) 93 (List.replicate k 0)]) (by kernel_rfl) (by kernel_rfl) (by kernel_rfl) ?_
  refine tri_cond (b := (decide ((k : Int) < ((n / 32 : Nat) : Int)))) rfl (fun hc => ?_) (fun hc => ?_)
  · replace hc := of_decide_eq_true hc
    refine tri_skip ?_
    refine next rfl rfl rfl ?_
    refine tri_seq ?_
    refine tri_block ?_
    refine tri_reg mixed [.con (v), .opq (fun u r => Sl dL u r [0]), .rop 0 (fun v => rowE dLk v 93 ((List.replicate k 0) ++ [0])), .cpy 2] [0, 3, 4] [] [0] ?_ (by decide) ?_ ?_ _ _
    · kernel_rfl
    · exact ⟨pu, bsL sl29, ap (hd := dLk) (bytes := 4) 0 1 sl29 (fun _ => rfl) rfl (by simp) (by simp only [List.length_replicate, List.length_cons, List.length_nil]; omega) (by decide), cp, trivial⟩
    rintro p6 x6 u6 hg6 ⟨q1, -⟩
    have hG6 := hG5.trans hg6
    refine pn_blk ?_
    refine next (g' := [(0, .int .i64 (n : Int)), (3, x6 2), (4, .int .i64 (k : Int))]) (bx' := []) (rw' := [rowE dLk (x6 2) 93 ((List.replicate k 0) ++ [0])]) (by kernel_rfl) (by kernel_rfl) (by kernel_rfl) ?_
    refine tri_reg mixed [.con (.int .i64 (k : Int)), .con (.int .i64 ((k : Int) + 1)), .con (.int .i64 ((k : Int) + 1))] [0, 3, 4] [] [0] ?_ (by decide) ?_ ?_ _ _
    · kernel_rfl
    · exact ⟨pu, pw (w64 (n := (k : Int) + 1) (by omega)), pu, trivial⟩
    rintro p7 x7 u7 hg7 -
    have hG7 := hG6.trans hg7
    exact PN.sub (g' := [(0, .int .i64 (n : Int)), (3, (x6 2)), (4, .int .i64 ((k + 1) : Int))]) (bx' := []) (rw' := [rowE dLk ((x6 2)) 93 (List.replicate (k + 1) 0)]) ⟨rfl, (by first | rfl | (simp)), (by first | rfl | (simp)), trivial⟩ rfl (by first | rfl | (rw [List.replicate_succ']; rfl)) (pn_at (m' := n / 32 - (k + 1)) (by omega) ⟨k + 1, x6 2, rfl, (((hg4).trans hg5).trans hg6).trans hg7, by omega, rfl, rfl, rfl⟩)
  · replace hc := of_decide_eq_false hc
    refine tri_exit ?_
    repeat refine pn_then (by simp) ?_
    refine pn_ex ?_
    refine next rfl rfl rfl ?_
    refine tri_seq ?_
    refine tri_reg mixed [.con (v), .con (.int .i64 (n : Int)), .con (.int .i64 ((n % 32 : Nat) : Int)), .con (.int .u64 ((n % 32 : Nat) : Int)), .con (.int .u32 (2 ^ (n % 32))), .opq (fun u r => Sl dL u r [(2 ^ (n % 32))]), .rop 0 (fun v => rowE dLk v 93 ((List.replicate k 0) ++ [(2 ^ (n % 32))])), .cpy 6] [2] [] [0] ?_ (by decide) ?_ ?_ _ _
    · kernel_rfl
    · exact ⟨pu, pu, pw (r64 (n := (n : Int)) (d := 32) (by omega)), pw (wu64 (n := ((n % 32 : Nat) : Int)) (by omega)), osl (yk := .u64) (d := ((n % 32 : Nat) : Int)) (by omega) (shl1 (by omega)), bsL sl29, ap (hd := dLk) (bytes := 4) 0 5 sl29 (fun _ => rfl) rfl (by simp) (by simp only [List.length_replicate, List.length_cons, List.length_nil]; omega) (by decide), cp, trivial⟩
    rintro p8 x8 u8 hg8 ⟨q5, -⟩
    have hG8 := hG5.trans hg8
    refine next (g' := [(2, x8 6)]) (bx' := []) (rw' := [rowE dLk (x8 6) 93 ((List.replicate k 0) ++ [(2 ^ (n % 32))])]) (by kernel_rfl) (by kernel_rfl) (by kernel_rfl) ?_
    obtain rfl : k = n / 32 := by omega
    refine tri_freeze 0 (l := (List.replicate (n / 32) 0) ++ [(2 ^ (n % 32))]) rfl fun u9 hg9 hfz => ?_
    have hG9 := hG8.trans hg9
    refine tri_cast rfl rfl (rw' := []) rfl ?_
    exact tri_ret (ret1 rfl (x8 6) rfl hG9 (LCv.of (by rw [← two_dig]; exact hfz)))

set_option maxRecDepth 100000 in
theorem r01_Shr {u : World} {M a n : Nat} {v0 : Value} (h0 : Lv u v0 M a) (ha : a ≤ 8796093022208) (hn : n ≤ 281474976710656) : Fn Try.prog 167 #[v0, .int .i64 (n : Int)] u (Tup2 (fun u r => LCv u r (M / 2 ^ n)) (Is (.int .i64 0))) := by
  obtain ⟨A0, n0, c0, xs0, rfl, h0, l0, b0, M0, L0, V0⟩ := h0.open
  refine fn_of (args := [_, _]) Try.func167 rfl (by show 2 ≤ 44; decide) ?_
  intro w0 hs0
  have hG0 := Gr.refl w0.heap.size u
  refine tri_seq ?_
  refine tri_reg mixed [.con (.slice none 0 0), .con (.int .i64 0)] [0, 1] [] [] ?_ (by decide) ?_ ?_ _ _
  · kernel_rfl
  · exact ⟨pu, pu, trivial⟩
  rintro p1 x1 u1 hg1 -
  replace h0 := h0.sub dLk hg1.1
  have hG1 := hG0.trans hg1
  refine next (g' := [(0, .slice A0 n0 c0), (1, .int .i64 (n : Int))]) (bx' := []) (rw' := []) (by kernel_rfl) (by kernel_rfl) (by kernel_rfl) ?_
  refine tri_seq ?_
  refine tri_seq ?_
  refine tri_reg mixed [.con (.int .i64 (n : Int)), .con (.bool false)] [0, 1, 10] [] [] ?_ (by decide) ?_ ?_ _ _
  · kernel_rfl
  · exact ⟨pu, pw (bf (p := (n : Int) < 0) (by omega)), trivial⟩
  rintro p2 x2 u2 hg2 -
  replace h0 := h0.sub dLk hg2.1
  have hG2 := hG1.trans hg2
  refine next (g' := [(0, .slice A0 n0 c0), (1, .int .i64 (n : Int)), (10, .bool false)]) (bx' := []) (rw' := []) (by kernel_rfl) (by kernel_rfl) (by kernel_rfl) ?_
  refine tri_false rfl ?_
  refine tri_skip ?_
  refine next rfl rfl rfl ?_
  refine tri_seq ?_
  refine tri_seq ?_
  refine tri_reg mixed [.con (.int .i64 (n : Int)), .con (.slice A0 n0 c0), .con (.int .i64 ((nbits M : Nat) : Int)), .con (.bool (decide (((nbits M : Nat) : Int) ≤ (n : Int))))] [0, 1, 14] [] [] ?_ (by decide) ?_ ?_ _ _
  · kernel_rfl
  · exact ⟨pu, pu, cc fun f u w hs => (r01_Bits (Lv.of (b := a) (h0.sub dLk hs.old) L0 V0 (by rw [l0]; exact b0)) (by omega)), pu, trivial⟩
  rintro p3 x3 u3 hg3 -
  replace h0 := h0.sub dLk hg3.1
  have hG3 := hG2.trans hg3
  refine next (g' := [(0, .slice A0 n0 c0), (1, .int .i64 (n : Int)), (14, .bool (decide (((nbits M : Nat) : Int) ≤ (n : Int))))]) (bx' := []) (rw' := []) (by kernel_rfl) (by kernel_rfl) (by kernel_rfl) ?_
  refine tri_cond (b := (decide (((nbits M : Nat) : Int) ≤ (n : Int)))) rfl (fun hc => ?_) (fun hc => ?_)
  · replace hc := of_decide_eq_true hc
    refine tri_seq ?_
    refine tri_reg mixed [.con (.slice none 0 0), .con (.int .i64 0)] [4, 5] [] [] ?_ (by decide) ?_ ?_ _ _
    · kernel_rfl
    · exact ⟨pu, pu, trivial⟩
    rintro p4 x4 u4 hg4 -
    replace h0 := h0.sub dLk hg4.1
    have hG4 := hG3.trans hg4
    refine next (g' := [(4, .slice none 0 0), (5, .int .i64 0)]) (bx' := []) (rw' := []) (by kernel_rfl) (by kernel_rfl) (by kernel_rfl) ?_
    exact tri_ret (ret2 rfl (.slice none 0 0) (.int .i64 0) rfl rfl hG4 (⟨_, _, rfl, by rw [div_zero_of (by omega)]; exact LCv.nil, rfl⟩))
  · replace hc := of_decide_eq_false hc
    refine tri_skip ?_
    refine next rfl rfl rfl ?_
    refine tri_seq ?_
    refine tri_reg mixed [.con (.slice none 0 0)] [0, 1, 6] [] [] ?_ (by decide) ?_ ?_ _ _
    · kernel_rfl
    · exact ⟨pu, trivial⟩
    rintro p5 x5 u5 hg5 -
    replace h0 := h0.sub dLk hg5.1
    have hG5 := hG3.trans hg5
    refine next (g' := [(0, .slice A0 n0 c0), (1, .int .i64 (n : Int)), (6, .slice none 0 0)]) (bx' := []) (rw' := []) (by kernel_rfl) (by kernel_rfl) (by kernel_rfl) ?_
    refine tri_seq ?_
    refine tri_seq ?_
    have hnb := nbits_len L0 V0
    refine tri_nil dLk 93 ?_
    refine tri_reg mixed [.con (.int .i64 (n : Int)), .con (.int .i64 ((n / 32 : Nat) : Int)), .con (.int .i64 ((n / 32 : Nat) : Int))] [0, 1, 6, 7] [] [0] ?_ (by decide) ?_ ?_ _ _
    · kernel_rfl
    · exact ⟨pu, pw (q64 (n := (n : Int)) (d := 32) (by omega)), pu, trivial⟩
    rintro p6 x6 u6 hg6 -
    replace h0 := h0.sub dLk hg6.1
    have hG6 := hG5.trans hg6
    refine next (g' := [(0, .slice A0 n0 c0), (1, .int .i64 (n : Int)), (6, .slice none 0 0), (7, .int .i64 ((n / 32 : Nat) : Int))]) (bx' := []) (rw' := [rowE dLk (.slice none 0 0) 93 []]) (by kernel_rfl) (by kernel_rfl) (by kernel_rfl) ?_
    refine tri_sub (g' := [(0, .slice A0 n0 c0), (1, .int .i64 (n : Int)), (6, .slice none 0 0), (7, .int .i64 ((0 + n / 32 : Nat) : Int))]) ⟨rfl, rfl, rfl, (by first | rfl | (show some (Value.int .i64 _) = some (Value.int .i64 _); congr 2; omega)), trivial⟩ ?_
    refine tri_block ?_
    refine tri_loop (fun m_ g_ bx_ rw_ u_ => ∃ (k0 : Nat) (zs : List Int) (v : Value), (m_ = n0 - (k0 + n / 32) ∧ Gr w0.heap.size u6 u_ ∧ k0 + n / 32 ≤ n0 ∧ zs.length = k0 ∧ Lim zs ∧ val zs = val (xs0.drop (n / 32)) / 2 ^ (n % 32) % B k0 ∧ g_ = [(0, .slice A0 n0 c0), (1, .int .i64 (n : Int)), (6, v), (7, .int .i64 ((k0 + n / 32 : Nat) : Int))] ∧ bx_ = [] ∧ rw_ = [rowE dLk (v) 93 zs])) (n0 - (0 + n / 32)) ⟨0, [], .slice none 0 0, rfl, Gr.refl _ _, by omega, rfl, Lim.nil, by rw [B_zero, Int.emod_one]; rfl, rfl, rfl, rfl⟩ ?_
    rintro m_ g_ bx_ rw_ u7 ⟨k0, zs, v, hm_, hg7, hk, ho, hzl, hzv, rfl, rfl, rfl⟩
    replace h0 := h0.sub dLk hg7.1
    have hG7 := hG6.trans hg7
    refine tri_seq ?_
    refine tri_seq ?_
    refine tri_reg mixed [.con (.int .i64 ((k0 + n / 32 : Nat) : Int)), .con (.slice A0 n0 c0), .con (.int .i64 (n0 : Int)), .con (.bool (decide (((k0 + n / 32 : Nat) : Int) < (n0 : Int))))] [0, 1, 6, 7, 20] [] [0] ?_ (by decide) ?_ ?_ _ _
    · kernel_rfl
    · exact ⟨pu, pu, pu, pu, trivial⟩
    rintro p8 x8 u8 hg8 -
    replace h0 := h0.sub dLk hg8.1
    have hG8 := hG7.trans hg8
    refine next (g' := [(0, .slice A0 n0 c0), (1, .int .i64 (n : Int)), (6, v), (7, .int .i64 ((k0 + n / 32 : Nat) : Int)), (20, .bool (decide (((k0 + n / 32 : Nat) : Int) < (n0 : Int))))]) (bx' := []) (rw' := [rowE dLk (v) 93 zs]) (by kernel_rfl) (by kernel_rfl) (by kernel_rfl) ?_
    refine tri_cond (b := (decide (((k0 + n / 32 : Nat) : Int) < (n0 : Int)))) rfl (fun hc => ?_) (fun hc => ?_)
    · replace hc := of_decide_eq_true hc
      refine tri_skip ?_
      refine next rfl rfl rfl ?_
      refine tri_seq ?_
      refine tri_block ?_
      refine tri_seq ?_
      have bx := L0.at_ (k0 + n / 32); have bY := L0.at_ (k0 + n / 32 + 1)
      have hq : 0 ≤ (at_ xs0 (k0 + n / 32) + at_ xs0 (k0 + n / 32 + 1) * 4294967296) / 2 ^ (n % 32) := Int.ediv_nonneg (by omega) (Int.le_of_lt (pow2_pos _))
      have hS := shr_m1 xs0 zs L0 (n / 32) (n % 32) k0 (at_ xs0 (k0 + n / 32) + at_ xs0 (k0 + n / 32 + 1) * 4294967296) (by omega) (by omega) ho hzl rfl hzv
      refine tri_reg mixed [.con (.slice A0 n0 c0), .con (.int .i64 ((k0 + n / 32 : Nat) : Int)), .con (.int .u64 (at_ xs0 (k0 + n / 32))), .con (.slice A0 n0 c0), .con (.int .i64 ((k0 + n / 32 : Nat) : Int)), .con (.int .i64 ((k0 + n / 32 + 1 : Nat) : Int)), .con (.int .u64 (at_ xs0 (k0 + n / 32 + 1))), .con (.int .u64 ((at_ xs0 (k0 + n / 32 + 1)) * 4294967296)), .con (.int .u64 ((at_ xs0 (k0 + n / 32)) + ((at_ xs0 (k0 + n / 32 + 1)) * 4294967296))), .con (.int .u64 ((at_ xs0 (k0 + n / 32)) + ((at_ xs0 (k0 + n / 32 + 1)) * 4294967296)))] [0, 1, 6, 7, 8] [] [0] ?_ (by decide) ?_ ?_ _ _
      · kernel_rfl
      · exact ⟨pu, pu, cc fun f u w hs => r01_limb (h0.sub dLk hs.old) L0, pu, pu, pw (w64 (n := ((k0 + n / 32 : Nat) : Int) + 1) (by omega)), cc fun f u w hs => r01_limb (h0.sub dLk hs.old) L0, pw (wu64 (n := (at_ xs0 (k0 + n / 32 + 1)) * 4294967296) (by omega)), pw (wu64 (n := (at_ xs0 (k0 + n / 32)) + ((at_ xs0 (k0 + n / 32 + 1)) * 4294967296)) (by omega)), pu, trivial⟩
      rintro p9 x9 u9 hg9 -
      replace h0 := h0.sub dLk hg9.1
      have hG9 := hG8.trans hg9
      refine next (g' := [(0, .slice A0 n0 c0), (1, .int .i64 (n : Int)), (6, v), (7, .int .i64 ((k0 + n / 32 : Nat) : Int)), (8, .int .u64 ((at_ xs0 (k0 + n / 32)) + ((at_ xs0 (k0 + n / 32 + 1)) * 4294967296)))]) (bx' := []) (rw' := [rowE dLk (v) 93 zs]) (by kernel_rfl) (by kernel_rfl) (by kernel_rfl) ?_
      refine tri_reg mixed [.con (v), .con (.int .u64 ((at_ xs0 (k0 + n / 32)) + ((at_ xs0 (k0 + n / 32 + 1)) * 4294967296))), .con (.int .i64 (n : Int)), .con (.int .i64 ((n % 32 : Nat) : Int)), .con (.int .u64 ((n % 32 : Nat) : Int)), .con (.int .u64 ((at_ xs0 (k0 + n / 32) + at_ xs0 (k0 + n / 32 + 1) * 4294967296) / 2 ^ (n % 32))), .con (.int .u64 (((at_ xs0 (k0 + n / 32) + at_ xs0 (k0 + n / 32 + 1) * 4294967296) / 2 ^ (n % 32)) % 4294967296)), .con (.int .u32 (((at_ xs0 (k0 + n / 32) + at_ xs0 (k0 + n / 32 + 1) * 4294967296) / 2 ^ (n % 32)) % 4294967296)), .opq (fun u r => Sl dL u r [(((at_ xs0 (k0 + n / 32) + at_ xs0 (k0 + n / 32 + 1) * 4294967296) / 2 ^ (n % 32)) % 4294967296)]), .rop 0 (fun v => rowE dLk v 93 (zs ++ [(((at_ xs0 (k0 + n / 32) + at_ xs0 (k0 + n / 32 + 1) * 4294967296) / 2 ^ (n % 32)) % 4294967296)])), .cpy 9] [0, 1, 6, 7] [] [0] ?_ (by decide) ?_ ?_ _ _
      · kernel_rfl
      · exact ⟨pu, pu, pu, pw (r64 (n := (n : Int)) (d := 32) (by omega)), pw (wu64 (n := ((n % 32 : Nat) : Int)) (by omega)), osr (yk := .u64) (d := ((n % 32 : Nat) : Int)) (by omega) (shr1 (by omega)), pw (ru64 (n := ((at_ xs0 (k0 + n / 32) + at_ xs0 (k0 + n / 32 + 1) * 4294967296) / 2 ^ (n % 32))) (d := 4294967296) (by omega)), pw (wu32 (n := (((at_ xs0 (k0 + n / 32) + at_ xs0 (k0 + n / 32 + 1) * 4294967296) / 2 ^ (n % 32)) % 4294967296)) (by omega)), bsL sl29, ap (hd := dLk) (bytes := 4) 0 8 sl29 (fun _ => rfl) rfl (by simp) (by simp only [List.length_cons, List.length_nil]; omega) (by decide), cp, trivial⟩
      rintro p10 x10 u10 hg10 ⟨q8, -⟩
      replace h0 := h0.sub dLk hg10.1
      have hG10 := hG9.trans hg10
      refine pn_blk ?_
      refine next (g' := [(0, .slice A0 n0 c0), (1, .int .i64 (n : Int)), (6, x10 9), (7, .int .i64 ((k0 + n / 32 : Nat) : Int))]) (bx' := []) (rw' := [rowE dLk (x10 9) 93 (zs ++ [(((at_ xs0 (k0 + n / 32) + at_ xs0 (k0 + n / 32 + 1) * 4294967296) / 2 ^ (n % 32)) % 4294967296)])]) (by kernel_rfl) (by kernel_rfl) (by kernel_rfl) ?_
      refine tri_reg mixed [.con (.int .i64 ((k0 + n / 32 : Nat) : Int)), .con (.int .i64 ((k0 + n / 32 + 1 : Nat) : Int)), .con (.int .i64 ((k0 + n / 32 + 1 : Nat) : Int))] [0, 1, 6, 7] [] [0] ?_ (by decide) ?_ ?_ _ _
      · kernel_rfl
      · exact ⟨pu, pw (w64 (n := ((k0 + n / 32 : Nat) : Int) + 1) (by omega)), pu, trivial⟩
      rintro p11 x11 u11 hg11 -
      replace h0 := h0.sub dLk hg11.1
      have hG11 := hG10.trans hg11
      exact PN.sub (g' := [(0, .slice A0 n0 c0), (1, .int .i64 (n : Int)), (6, (x10 9)), (7, .int .i64 (((k0 + 1) + n / 32 : Nat) : Int))]) (bx' := []) (rw' := [rowE dLk ((x10 9)) 93 (zs ++ [(at_ xs0 (k0 + n / 32) + at_ xs0 (k0 + n / 32 + 1) * 4294967296) / 2 ^ (n % 32) % 4294967296])]) ⟨rfl, rfl, (by first | rfl | (show some (Value.int .i64 _) = some (Value.int .i64 _); congr 2; omega)), (by first | rfl | (show some (Value.int .i64 _) = some (Value.int .i64 _); congr 2; omega)), trivial⟩ rfl rfl (pn_at (m' := n0 - ((k0 + 1) + n / 32)) (by omega) ⟨k0 + 1, zs ++ [(at_ xs0 (k0 + n / 32) + at_ xs0 (k0 + n / 32 + 1) * 4294967296) / 2 ^ (n % 32) % 4294967296], x10 9, rfl, ((((hg7).trans hg8).trans hg9).trans hg10).trans hg11, by omega, by rw [List.length_append, ho]; rfl, hS.1, hS.2, rfl, rfl, rfl⟩)
    · replace hc := of_decide_eq_false hc
      refine tri_exit ?_
      repeat refine pn_then (by simp) ?_
      refine pn_ex ?_
      refine next rfl rfl rfl ?_
      refine tri_seq ?_
      have hE := shr_end L0 hzl ho (by omega) hzv
      refine tri_freeze 0 (l := zs) rfl fun u13 hg13 hz => ?_
      replace h0 := h0.sub dLk hg13.1
      have hG13 := hG8.trans hg13
      refine tri_cast rfl rfl (rw' := []) rfl ?_
      have hv : val zs = ((M / 2 ^ n : Nat) : Int) := by rw [hE, V0]; simp
      refine tri_reg mixed [.con (v), .opq (fun u r => LCv u r (M / 2 ^ n)), .cpy 1, .con (.int .i64 0)] [4, 5] [] [] ?_ (by decide) ?_ ?_ _ _
      · kernel_rfl
      · exact ⟨pu, ca (LCv.m _) fun f u w hs => (r01_NormV (Lv.of (b := a) (hz.sub dLk hs.old) hzl hv (by omega)) (by omega)), cp, pu, trivial⟩
      rintro p12 x12 u12 hg12 ⟨q1, -⟩
      replace h0 := h0.sub dLk hg12.1; replace hz := hz.sub dLk hg12.1
      have hG12 := hG13.trans hg12
      obtain ⟨A12_1, n12_1, c12_1, e12_1, h12_1, l12_1, l12_1n, l12_1M⟩ := q1.open; rw [fun_upd (i := 1) e12_1]
      refine next (g' := [(4, .slice A12_1 n12_1 c12_1), (5, .int .i64 0)]) (bx' := []) (rw' := []) (by kernel_rfl) (by kernel_rfl) (by kernel_rfl) ?_
      exact tri_ret (ret2 rfl (.slice A12_1 n12_1 c12_1) (.int .i64 0) rfl rfl hG12 (⟨_, _, rfl, LCv.of h12_1, rfl⟩))

theorem val_lim {xs : List Int} {N b : Nat} (hl : Lim xs) (hv : val xs = N) (hb : xs.length ≤ b) : lim N ≤ b := Mt.lim_val hl hv hb

set_option maxRecDepth 100000 in
theorem r01_Div {u : World} {M N a b : Nat} {v0 : Value} {v1 : Value} (h0 : Lv u v0 M a) (h1 : Lv u v1 N b) (ha : a ≤ 1099511627776) (hb : b ≤ 1099511627776) (hN : 0 < N) : Fn Try.prog 132 #[v0, v1] u (Tup3 (fun u r => LCv u r (M / N)) (fun u r => LCv u r (M % N)) (Is (.int .i64 0))) := by
  obtain ⟨A0, n0, c0, xs0, rfl, h0, l0, b0, M0, L0, V0⟩ := h0.open
  obtain ⟨A1, n1, c1, xs1, rfl, h1, l1, b1, M1, L1, V1⟩ := h1.open
  have hlN := lim_val L1 V1 (show _ ≤ b by omega); have hlM := lim_val L0 V0 (show _ ≤ a by omega); have hlp0 := lim_ps hN; have hnb := nbits_len (dig_lim N) (dig_val N); rw [show (dig N).length = lim N from rfl] at hnb; obtain ⟨s, hs⟩ : ∃ s, s = 32 * lim N - nbits N := ⟨_, rfl⟩
  refine fn_of (args := [_, _]) Try.func132 rfl (by show 2 ≤ 132; decide) ?_
  intro w0 hs0
  have hG0 := Gr.refl w0.heap.size u
  refine tri_seq ?_
  refine tri_reg mixed [.con (.slice none 0 0), .con (.slice none 0 0), .con (.int .i64 0)] [0, 1] [] [] ?_ (by decide) ?_ ?_ _ _
  · kernel_rfl
  · exact ⟨pu, pu, pu, trivial⟩
  rintro p1 x1 u1 hg1 -
  replace h0 := h0.sub dLk hg1.1; replace h1 := h1.sub dLk hg1.1
  have hG1 := hG0.trans hg1
  refine next (g' := [(0, .slice A0 n0 c0), (1, .slice A1 n1 c1)]) (bx' := []) (rw' := []) (by kernel_rfl) (by kernel_rfl) (by kernel_rfl) ?_
  refine tri_seq ?_
  refine tri_reg mixed [.con (.slice A1 n1 c1), .opq (fun u r => LCv u r N), .cpy 1] [0, 7] [] [] ?_ (by decide) ?_ ?_ _ _
  · kernel_rfl
  · exact ⟨pu, ca (LCv.m _) fun f u w hs => (r01_NormV (Lv.of (b := b) (h1.sub dLk hs.old) L1 V1 (by rw [l1]; exact b1)) (by omega)), cp, trivial⟩
  rintro p2 x2 u2 hg2 ⟨q1, -⟩
  replace h0 := h0.sub dLk hg2.1; replace h1 := h1.sub dLk hg2.1
  have hG2 := hG1.trans hg2
  obtain ⟨A2_1, n2_1, c2_1, e2_1, h2_1, l2_1, l2_1n, l2_1M⟩ := q1.open; rw [fun_upd (i := 1) e2_1]
  refine next (g' := [(0, .slice A0 n0 c0), (7, .slice A2_1 n2_1 c2_1)]) (bx' := []) (rw' := []) (by kernel_rfl) (by kernel_rfl) (by kernel_rfl) ?_
  refine tri_seq ?_
  refine tri_seq ?_
  refine tri_reg mixed [.con (.slice A2_1 n2_1 c2_1), .con (.int .i64 (n2_1 : Int)), .con (.bool false)] [0, 7, 24] [] [] ?_ (by decide) ?_ ?_ _ _
  · kernel_rfl
  · exact ⟨pu, pu, pw (bef (a := (n2_1 : Int)) (b := 0) (by omega)), trivial⟩
  rintro p3 x3 u3 hg3 -
  replace h0 := h0.sub dLk hg3.1; replace h2_1 := h2_1.sub dLk hg3.1
  have hG3 := hG2.trans hg3
  refine next (g' := [(0, .slice A0 n0 c0), (7, .slice A2_1 n2_1 c2_1), (24, .bool false)]) (bx' := []) (rw' := []) (by kernel_rfl) (by kernel_rfl) (by kernel_rfl) ?_
  refine tri_false rfl ?_
  refine tri_skip ?_
  refine next rfl rfl rfl ?_
  refine tri_seq ?_
  refine tri_seq ?_
  refine tri_reg mixed [.con (.slice A2_1 n2_1 c2_1), .con (.int .i64 (n2_1 : Int)), .con (.bool ((n2_1 : Int) == 1))] [0, 7, 27] [] [] ?_ (by decide) ?_ ?_ _ _
  · kernel_rfl
  · exact ⟨pu, pu, pu, trivial⟩
  rintro p4 x4 u4 hg4 -
  replace h0 := h0.sub dLk hg4.1; replace h2_1 := h2_1.sub dLk hg4.1
  have hG4 := hG3.trans hg4
  refine next (g' := [(0, .slice A0 n0 c0), (7, .slice A2_1 n2_1 c2_1), (27, .bool ((n2_1 : Int) == 1))]) (bx' := []) (rw' := []) (by kernel_rfl) (by kernel_rfl) (by kernel_rfl) ?_
  refine tri_cond (b := ((n2_1 : Int) == 1)) rfl (fun hc => ?_) (fun hc => ?_)
  · replace hc := eq_of_beq hc
    refine tri_seq ?_
    obtain ⟨ad, x_, cs_, hA, hx_, hcs_, hcell⟩ := h2_1.at dLk 0 (by omega)
    have hx_ : x_ = at_ (dig N) 0 := by unfold at_; rw [List.getD_eq_getElem?_getD, hx_]; rfl
    subst hx_; rw [show cs_ = _ from hcs_] at hcell; clear hcs_
    have hN1 : at_ (dig N) 0 = (N : Int) := at_one (by omega)
    have bx := (dig_lim N).at_ 0; have hmd : M % N < N := Nat.mod_lt _ hN
    refine tri_reg mixed [.con (.slice A0 n0 c0), .con (.slice A2_1 n2_1 c2_1), .con (.pointer (some (ad.add ((0 : Int).toNat * 1)))), .con (.int .u32 (at_ (dig N) 0)), .con (.int .u64 (N : Int)), .opq (Tup2 (fun u r => LCv u r (M / N)) (Is (.int .u64 ((M % N : Nat) : Int)))), .opq (Tup2 (fun u r => LCv u r (M / N)) (Is (.int .u64 ((M % N : Nat) : Int)))), .opq (fun u r => LCv u r (M / N)), .con (.int .u64 ((M % N : Nat) : Int)), .cpy 7, .con (.int .u64 ((M % N : Nat) : Int))] [8, 9] [] [] ?_ (by decide) ?_ ?_ _ _
    · kernel_rfl
    · exact ⟨pu, pu, ix (kk := .i64) (n := n2_1) (c := c2_1) sl29 hA (by omega) (by omega), li ty93 (vs := [.int .u32 (at_ (dig N) 0)]) hcell rfl, pw (wu64 (n := (at_ (dig N) 0)) (by omega)), ca (Tup2.mono (LCv.m _) (Is.mono _)) fun f u w hs => (r01_small (Lv.of (b := a) (h0.sub dLk hs.old) L0 V0 (by rw [l0]; exact b0)) (by omega) (by omega) (by omega)), mv 5 (Tup2.mono (LCv.m _) (Is.mono _)), ex2a 6 (LCv.m _), ex2c 6, cp, pu, trivial⟩
    rintro p5 x5 u5 hg5 ⟨q5, q6, q7, -⟩
    replace h0 := h0.sub dLk hg5.1; replace h2_1 := h2_1.sub dLk hg5.1
    have hG5 := hG4.trans hg5
    obtain ⟨A5_7, n5_7, c5_7, e5_7, h5_7, l5_7, l5_7n, l5_7M⟩ := q7.open; rw [fun_upd (i := 7) e5_7]
    refine next (g' := [(8, .slice A5_7 n5_7 c5_7), (9, .int .u64 ((M % N : Nat) : Int))]) (bx' := []) (rw' := []) (by kernel_rfl) (by kernel_rfl) (by kernel_rfl) ?_
    refine tri_seq ?_
    refine tri_reg mixed [.con (.slice A5_7 n5_7 c5_7), .con (.int .u64 ((M % N : Nat) : Int)), .con (.int .u32 ((M % N : Nat) : Int)), .opq (fun u r => Sl dL u r [((M % N : Nat) : Int)]), .opq (fun u r => LCv u r (M % N)), .con (.slice A5_7 n5_7 c5_7), .cpy 4, .con (.int .i64 0)] [4, 5, 6] [] [] ?_ (by decide) ?_ ?_ _ _
    · kernel_rfl
    · exact ⟨pu, pu, pw (wu32 (n := ((M % N : Nat) : Int)) (by omega)), bsL sl29, ca (LCv.m _) fun f u w hs => (r01_NormV (Lv.of (b := 1) (hs.opq 3 _ rfl rfl) (Lim.one (by omega) (by omega)) (val_one _) (Nat.le_refl 1)) (by omega)), pu, cp, pu, trivial⟩
    rintro p6 x6 u6 hg6 ⟨q3, q4, -⟩
    replace h5_7 := h5_7.sub dLk hg6.1
    have hG6 := hG5.trans hg6
    obtain ⟨A6_4, n6_4, c6_4, e6_4, h6_4, l6_4, l6_4n, l6_4M⟩ := q4.open; rw [fun_upd (i := 4) e6_4]
    refine next (g' := [(4, .slice A5_7 n5_7 c5_7), (5, .slice A6_4 n6_4 c6_4), (6, .int .i64 0)]) (bx' := []) (rw' := []) (by kernel_rfl) (by kernel_rfl) (by kernel_rfl) ?_
    exact tri_ret (ret3 rfl (.slice A5_7 n5_7 c5_7) (.slice A6_4 n6_4 c6_4) (.int .i64 0) rfl rfl rfl hG6 (⟨_, _, _, rfl, LCv.of h5_7, LCv.of h6_4, rfl⟩))
  · replace hc := ne_of_beq_false hc
    refine tri_skip ?_
    refine next rfl rfl rfl ?_
    refine tri_seq ?_
    refine tri_reg mixed [.con (.slice A2_1 n2_1 c2_1), .con (.int .i64 (n2_1 : Int)), .con (.int .i64 (32 * (n2_1 : Int))), .con (.slice A2_1 n2_1 c2_1), .con (.int .i64 ((nbits N : Nat) : Int)), .con (.int .i64 (s : Int)), .opq (fun u r => LCv u r (2 ^ s)), .cpy 6] [0, 7, 10] [] [] ?_ (by decide) ?_ ?_ _ _
    · kernel_rfl
    · exact ⟨pu, pu, pw (w64 (n := 32 * (n2_1 : Int)) (by omega)), pu, cc fun f u w hs => (r01_Bits (Lv.of (b := b) (h2_1.sub dLk hs.old) (dig_lim _) (dig_val _) (lim_val L1 V1 (by rw [l1]; exact b1))) (by omega)), pw (w64 (n := (32 * (n2_1 : Int)) - ((nbits N : Nat) : Int)) (by omega)), ca (LCv.m _) fun f u w hs => (r01_Two (by omega)), cp, trivial⟩
    rintro p7 x7 u7 hg7 ⟨q6, -⟩
    replace h0 := h0.sub dLk hg7.1; replace h2_1 := h2_1.sub dLk hg7.1
    have hG7 := hG4.trans hg7
    obtain ⟨A7_6, n7_6, c7_6, e7_6, h7_6, l7_6, l7_6n, l7_6M⟩ := q6.open; rw [fun_upd (i := 6) e7_6]
    refine next (g' := [(0, .slice A0 n0 c0), (7, .slice A2_1 n2_1 c2_1), (10, .slice A7_6 n7_6 c7_6)]) (bx' := []) (rw' := []) (by kernel_rfl) (by kernel_rfl) (by kernel_rfl) ?_
    refine tri_seq ?_
    obtain ⟨U, hU⟩ : ∃ U, U = M * 2 ^ s := ⟨_, rfl⟩; obtain ⟨V, hV⟩ : ∃ V, V = N * 2 ^ s := ⟨_, rfl⟩
    have hlU : lim U ≤ a + (s / 32 + 1) := by rw [hU]; exact Nat.le_trans (lim_mul _ _) (Nat.add_le_add hlM (two_limb _))
    have hT := top_set hN hs; rw [← hV] at hT; have hV0 : 0 < V := by rw [hV]; exact Nat.mul_pos hN (Nat.pow_pos (by omega))
    have hDS := div_shift M N s hN; rw [← hU, ← hV] at hDS
    obtain ⟨t, ht⟩ : ∃ t, lim N = t + 1 := ⟨lim N - 1, by omega⟩
    rw [show lim N - 1 = t by omega] at hT; obtain ⟨hTl, hT⟩ := hT
    refine tri_reg mixed [.con (.slice A0 n0 c0), .con (.slice A7_6 n7_6 c7_6), .opq (fun u r => LCv u r U), .cpy 2] [7, 10, 11] [] [] ?_ (by decide) ?_ ?_ _ _
    · kernel_rfl
    · exact ⟨pu, pu, ca (LCv.m _) fun f u w hs => fn_lc hU (r01_Mul (Lv.of (b := a) (h0.sub dLk hs.old) L0 V0 (by rw [l0]; exact b0)) (Lv.of (b := (s / 32 + 1)) (h7_6.sub dLk hs.old) (dig_lim _) (dig_val _) (two_limb _)) (by omega) (by omega)), cp, trivial⟩
    rintro p8 x8 u8 hg8 ⟨q2, -⟩
    replace h0 := h0.sub dLk hg8.1; replace h2_1 := h2_1.sub dLk hg8.1; replace h7_6 := h7_6.sub dLk hg8.1
    have hG8 := hG7.trans hg8
    obtain ⟨A8_2, n8_2, c8_2, e8_2, h8_2, l8_2, l8_2n, l8_2M⟩ := q2.open; rw [fun_upd (i := 2) e8_2]
    refine next (g' := [(7, .slice A2_1 n2_1 c2_1), (10, .slice A7_6 n7_6 c7_6), (11, .slice A8_2 n8_2 c8_2)]) (bx' := []) (rw' := []) (by kernel_rfl) (by kernel_rfl) (by kernel_rfl) ?_
    refine tri_seq ?_
    refine tri_reg mixed [.con (.slice A2_1 n2_1 c2_1), .con (.slice A7_6 n7_6 c7_6), .opq (fun u r => LCv u r V), .cpy 2] [7, 11, 12] [] [] ?_ (by decide) ?_ ?_ _ _
    · kernel_rfl
    · exact ⟨pu, pu, ca (LCv.m _) fun f u w hs => fn_lc hV (r01_Mul (Lv.of (b := b) (h2_1.sub dLk hs.old) (dig_lim _) (dig_val _) (lim_val L1 V1 (by rw [l1]; exact b1))) (Lv.of (b := (s / 32 + 1)) (h7_6.sub dLk hs.old) (dig_lim _) (dig_val _) (two_limb _)) (by omega) (by omega)), cp, trivial⟩
    rintro p9 x9 u9 hg9 ⟨q2, -⟩
    replace h2_1 := h2_1.sub dLk hg9.1; replace h7_6 := h7_6.sub dLk hg9.1; replace h8_2 := h8_2.sub dLk hg9.1
    have hG9 := hG8.trans hg9
    obtain ⟨A9_2, n9_2, c9_2, e9_2, h9_2, l9_2, l9_2n, l9_2M⟩ := q2.open; rw [fun_upd (i := 2) e9_2]
    refine next (g' := [(7, .slice A2_1 n2_1 c2_1), (11, .slice A8_2 n8_2 c8_2), (12, .slice A9_2 n9_2 c9_2)]) (bx' := []) (rw' := []) (by kernel_rfl) (by kernel_rfl) (by kernel_rfl) ?_
    refine tri_seq ?_
    refine tri_reg mixed [.con (.slice A8_2 n8_2 c8_2), .con (.int .i64 (n8_2 : Int)), .mk (fun v => rowE dLk v 93 (List.replicate n8_2 0)), .cpy 2] [7, 11, 12, 13] [] [2] ?_ (by decide) ?_ ?_ _ _
    · kernel_rfl
    · exact ⟨pu, pu, mkL n8_2 sl29.1 infoU32 (by omega), cp, trivial⟩
    rintro p10 x10 u10 hg10 -
    replace h2_1 := h2_1.sub dLk hg10.1; replace h8_2 := h8_2.sub dLk hg10.1; replace h9_2 := h9_2.sub dLk hg10.1
    have hG10 := hG9.trans hg10
    refine next (g' := [(7, .slice A2_1 n2_1 c2_1), (11, .slice A8_2 n8_2 c8_2), (12, .slice A9_2 n9_2 c9_2), (13, x10 2)]) (bx' := []) (rw' := [rowE dLk (x10 2) 93 (List.replicate n8_2 0)]) (by kernel_rfl) (by kernel_rfl) (by kernel_rfl) ?_
    refine tri_seq ?_
    refine tri_reg mixed [.con (.slice none 0 0)] [7, 11, 12, 13, 14] [] [0] ?_ (by decide) ?_ ?_ _ _
    · kernel_rfl
    · exact ⟨pu, trivial⟩
    rintro p11 x11 u11 hg11 -
    replace h2_1 := h2_1.sub dLk hg11.1; replace h8_2 := h8_2.sub dLk hg11.1; replace h9_2 := h9_2.sub dLk hg11.1
    have hG11 := hG10.trans hg11
    refine next (g' := [(7, .slice A2_1 n2_1 c2_1), (11, .slice A8_2 n8_2 c8_2), (12, .slice A9_2 n9_2 c9_2), (13, x10 2), (14, .slice none 0 0)]) (bx' := []) (rw' := [rowE dLk (x10 2) 93 (List.replicate n8_2 0)]) (by kernel_rfl) (by kernel_rfl) (by kernel_rfl) ?_
    refine tri_seq ?_
    refine tri_seq ?_
    refine tri_reg mixed [.con (.slice A8_2 n8_2 c8_2), .con (.int .i64 (n8_2 : Int)), .con (.int .i64 ((n8_2 : Int) - 1)), .con (.int .i64 ((n8_2 : Int) - 1))] [7, 11, 12, 13, 14, 15] [] [0] ?_ (by decide) ?_ ?_ _ _
    · kernel_rfl
    · exact ⟨pu, pu, pw (w64 (n := (n8_2 : Int) - 1) (by omega)), pu, trivial⟩
    rintro p12 x12 u12 hg12 -
    replace h2_1 := h2_1.sub dLk hg12.1; replace h8_2 := h8_2.sub dLk hg12.1; replace h9_2 := h9_2.sub dLk hg12.1
    have hG12 := hG11.trans hg12
    refine next (g' := [(7, .slice A2_1 n2_1 c2_1), (11, .slice A8_2 n8_2 c8_2), (12, .slice A9_2 n9_2 c9_2), (13, x10 2), (14, .slice none 0 0), (15, .int .i64 ((n8_2 : Int) - 1))]) (bx' := []) (rw' := [rowE dLk (x10 2) 93 (List.replicate n8_2 0)]) (by kernel_rfl) (by kernel_rfl) (by kernel_rfl) ?_
    refine tri_block ?_
    refine tri_loop (fun m_ g_ bx_ rw_ u_ => ∃ (k R : Nat) (qs : List Int) (v rv : Value), (m_ = k ∧ Gr w0.heap.size u12 u_ ∧ k ≤ n8_2 ∧ dvI (dig U) qs V k R ∧ LCv u_ rv R ∧ g_ = [(7, .slice A2_1 n2_1 c2_1), (11, .slice A8_2 n8_2 c8_2), (12, .slice A9_2 n9_2 c9_2), (13, v), (14, rv), (15, .int .i64 ((k : Int) - 1))] ∧ bx_ = [] ∧ rw_ = [rowE dLk (v) 93 qs])) (n8_2) ⟨n8_2, 0, List.replicate n8_2 0, x10 2, .slice none 0 0, rfl, Gr.refl _ _, Nat.le_refl _, by rw [← l8_2]; exact dvI_start _ hV0, LCv.nil, rfl, rfl, rfl⟩ ?_
    rintro m_ g_ bx_ rw_ u13 ⟨k, R, qs, v, rv, hm_, hg13, hk, hI, hLR, rfl, rfl, rfl⟩
    replace h2_1 := h2_1.sub dLk hg13.1; replace h8_2 := h8_2.sub dLk hg13.1; replace h9_2 := h9_2.sub dLk hg13.1
    have hG13 := hG12.trans hg13
    obtain ⟨rA, rn, rc, rfl, hr, lr, lrn, lrM⟩ := hLR.open
    have hRV := hI.2.2.2.2; have hlR : lim R ≤ lim N := Nat.le_trans (lim_mono (Nat.le_of_lt hRV)) (Nat.le_of_eq hTl); have hql := hI.1
    rcases Nat.eq_zero_or_pos k with hk0 | hk0
    · subst hk0
      refine tri_seq ?_
      refine tri_seq ?_
      refine tri_reg mixed [.con (.int .i64 (((0 : Nat) : Int) - 1)), .con (.bool false)] [7, 11, 12, 13, 14, 15, 62] [] [0] ?_ (by decide) ?_ ?_ _ _
      · kernel_rfl
      · exact ⟨pu, pw (bf (p := 0 ≤ (((0 : Nat) : Int) - 1)) (by omega)), trivial⟩
      rintro p14 x14 u14 hg14 -
      replace h2_1 := h2_1.sub dLk hg14.1; replace h8_2 := h8_2.sub dLk hg14.1; replace h9_2 := h9_2.sub dLk hg14.1; replace hr := hr.sub dLk hg14.1
      have hG14 := hG13.trans hg14
      refine next (g' := [(7, .slice A2_1 n2_1 c2_1), (11, .slice A8_2 n8_2 c8_2), (12, .slice A9_2 n9_2 c9_2), (13, v), (14, .slice rA rn rc), (15, .int .i64 (((0 : Nat) : Int) - 1)), (62, .bool false)]) (bx' := []) (rw' := [rowE dLk (v) 93 qs]) (by kernel_rfl) (by kernel_rfl) (by kernel_rfl) ?_
      refine tri_false rfl ?_
      refine tri_exit ?_
      repeat refine pn_then (by simp) ?_
      refine pn_ex ?_
      refine next rfl rfl rfl ?_
      refine tri_seq ?_
      refine tri_reg mixed [.con (.slice rA rn rc), .con (.slice A2_1 n2_1 c2_1), .con (.int .i64 (n2_1 : Int)), .con (.int .i64 (32 * (n2_1 : Int))), .con (.slice A2_1 n2_1 c2_1), .con (.int .i64 ((nbits N : Nat) : Int)), .con (.int .i64 (s : Int)), .opq (Tup2 (fun u r => LCv u r (R / 2 ^ s)) (Is (.int .i64 0))), .opq (Tup2 (fun u r => LCv u r (R / 2 ^ s)) (Is (.int .i64 0))), .opq (fun u r => LCv u r (R / 2 ^ s)), .con (.int .i64 0), .cpy 9, .con (.int .i64 0)] [13, 18] [] [0] ?_ (by decide) ?_ ?_ _ _
      · kernel_rfl
      · exact ⟨pu, pu, pu, pw (w64 (n := 32 * (n2_1 : Int)) (by omega)), pu, cc fun f u w hs => (r01_Bits (Lv.of (b := b) (h2_1.sub dLk hs.old) (dig_lim _) (dig_val _) (lim_val L1 V1 (by rw [l1]; exact b1))) (by omega)), pw (w64 (n := (32 * (n2_1 : Int)) - ((nbits N : Nat) : Int)) (by omega)), ca (Tup2.mono (LCv.m _) (Is.mono _)) fun f u w hs => (r01_Shr (Lv.of (b := (lim N)) (hr.sub dLk hs.old) (dig_lim _) (dig_val _) hlR) (by omega) (by omega)), mv 7 (Tup2.mono (LCv.m _) (Is.mono _)), ex2a 8 (LCv.m _), ex2c 8, cp, pu, trivial⟩
      rintro p15 x15 u15 hg15 ⟨q7, q8, q9, -⟩
      replace h2_1 := h2_1.sub dLk hg15.1; replace h8_2 := h8_2.sub dLk hg15.1; replace h9_2 := h9_2.sub dLk hg15.1; replace hr := hr.sub dLk hg15.1
      have hG15 := hG14.trans hg15
      obtain ⟨A15_9, n15_9, c15_9, e15_9, h15_9, l15_9, l15_9n, l15_9M⟩ := q9.open; rw [fun_upd (i := 9) e15_9]
      refine next (g' := [(13, v), (18, .slice A15_9 n15_9 c15_9)]) (bx' := []) (rw' := [rowE dLk (v) 93 qs]) (by kernel_rfl) (by kernel_rfl) (by kernel_rfl) ?_
      refine tri_seq ?_
      have hE := dvI_end hI (dig_val U); rw [hDS.1] at hE; have hqm := hI.2.1; have hql2 := hI.1
      refine tri_freeze 0 (l := qs) rfl fun u17 hg17 hz => ?_
      replace h15_9 := h15_9.sub dLk hg17.1
      have hG17 := hG15.trans hg17
      refine tri_cast rfl rfl (rw' := []) rfl ?_
      refine tri_reg mixed [.con (v), .opq (fun u r => LCv u r (M / N)), .con (.slice A15_9 n15_9 c15_9), .cpy 1, .con (.slice A15_9 n15_9 c15_9), .con (.int .i64 0)] [4, 5, 6] [] [] ?_ (by decide) ?_ ?_ _ _
      · kernel_rfl
      · exact ⟨pu, ca (LCv.m _) fun f u w hs => (r01_NormV (Lv.of (b := (a + (s / 32 + 1))) (hz.sub dLk hs.old) hqm hE.1 (by omega)) (by omega)), pu, cp, pu, pu, trivial⟩
      rintro p16 x16 u16 hg16 ⟨q1, -⟩
      replace h15_9 := h15_9.sub dLk hg16.1; replace hz := hz.sub dLk hg16.1
      have hG16 := hG17.trans hg16
      obtain ⟨A16_1, n16_1, c16_1, e16_1, h16_1, l16_1, l16_1n, l16_1M⟩ := q1.open; rw [fun_upd (i := 1) e16_1]
      refine next (g' := [(4, .slice A16_1 n16_1 c16_1), (5, .slice A15_9 n15_9 c15_9), (6, .int .i64 0)]) (bx' := []) (rw' := []) (by kernel_rfl) (by kernel_rfl) (by kernel_rfl) ?_
      exact tri_ret (ret3 rfl (.slice A16_1 n16_1 c16_1) (.slice A15_9 n15_9 c15_9) (.int .i64 0) rfl rfl rfl hG16 (⟨_, _, _, rfl, LCv.of h16_1, (by have := LCv.of h15_9; rwa [hE.2, hDS.2] at this), rfl⟩))
    · obtain ⟨m, rfl⟩ : ∃ m, k = m + 1 := ⟨k - 1, by omega⟩
      refine tri_sub (g' := [(7, .slice A2_1 n2_1 c2_1), (11, .slice A8_2 n8_2 c8_2), (12, .slice A9_2 n9_2 c9_2), (13, v), (14, .slice rA rn rc), (15, .int .i64 (m : Int))]) ⟨rfl, rfl, rfl, rfl, rfl, (by first | rfl | (show some (Value.int .i64 _) = some (Value.int .i64 _); congr 2; omega)), trivial⟩ ?_
      refine tri_seq ?_
      refine tri_seq ?_
      refine tri_reg mixed [.con (.int .i64 (m : Int)), .con (.bool true)] [7, 11, 12, 13, 14, 15, 62] [] [0] ?_ (by decide) ?_ ?_ _ _
      · kernel_rfl
      · exact ⟨pu, pw (bt (p := 0 ≤ (m : Int)) (by omega)), trivial⟩
      rintro p18 x18 u18 hg18 -
      replace h2_1 := h2_1.sub dLk hg18.1; replace h8_2 := h8_2.sub dLk hg18.1; replace h9_2 := h9_2.sub dLk hg18.1; replace hr := hr.sub dLk hg18.1
      have hG18 := hG13.trans hg18
      refine next (g' := [(7, .slice A2_1 n2_1 c2_1), (11, .slice A8_2 n8_2 c8_2), (12, .slice A9_2 n9_2 c9_2), (13, v), (14, .slice rA rn rc), (15, .int .i64 (m : Int)), (62, .bool true)]) (bx' := []) (rw' := [rowE dLk (v) 93 qs]) (by kernel_rfl) (by kernel_rfl) (by kernel_rfl) ?_
      refine tri_true rfl ?_
      refine tri_skip ?_
      refine next rfl rfl rfl ?_
      refine tri_seq ?_
      refine tri_block ?_
      refine tri_seq ?_
      obtain ⟨ad, x_, cs_, hA, hx_, hcs_, hcell⟩ := h8_2.at dLk m (by omega)
      have hx_ : x_ = at_ (dig U) m := by unfold at_; rw [List.getD_eq_getElem?_getD, hx_]; rfl
      subst hx_; rw [show cs_ = _ from hcs_] at hcell; clear hcs_
      have bx := (dig_lim U).at_ m; have hnx := nextR_lt hI (dig_lim U)
      refine tri_reg mixed [.con (.slice A8_2 n8_2 c8_2), .con (.int .i64 (m : Int)), .con (.pointer (some (ad.add (((m : Int) : Int).toNat * 1)))), .con (.int .u32 (at_ (dig U) m)), .opq (Sl1 dL (at_ (dig U) m)), .con (.slice rA rn rc), .opq (fun u r => Sl dL u r (at_ (dig U) m :: dig R)), .opq (fun u r => LCv u r (nextR (dig U) m R)), .cpy 7] [7, 11, 12, 13, 14, 15] [] [0] ?_ (by decide) ?_ ?_ _ _
      · kernel_rfl
      · exact ⟨pu, pu, ix (kk := .i64) (n := n8_2) (c := c8_2) sl29 hA (by omega) (by omega), li ty93 (vs := [.int .u32 (at_ (dig U) m)]) hcell rfl, bsLT sl29, pu, apQL 4 (zv := .slice rA rn rc) sl29 (fun f u w hs => hr.sub dLk hs.old) (by omega), ca (LCv.m _) fun f u w hs => (r01_NormV (Lv.of (b := (lim N + 1)) (hs.opq 6 _ rfl rfl) (nextR_lim (dig_lim U) m R) (nextR_is (dig_lim U) m R) (by rw [List.length_cons]; omega)) (by omega)), cp, trivial⟩
      rintro p19 x19 u19 hg19 ⟨q4, q6, q7, -⟩
      replace h2_1 := h2_1.sub dLk hg19.1; replace h8_2 := h8_2.sub dLk hg19.1; replace h9_2 := h9_2.sub dLk hg19.1; replace hr := hr.sub dLk hg19.1
      have hG19 := hG18.trans hg19
      obtain ⟨A19_7, n19_7, c19_7, e19_7, h19_7, l19_7, l19_7n, l19_7M⟩ := q7.open; rw [fun_upd (i := 7) e19_7]
      refine next (g' := [(7, .slice A2_1 n2_1 c2_1), (11, .slice A8_2 n8_2 c8_2), (12, .slice A9_2 n9_2 c9_2), (13, v), (14, .slice A19_7 n19_7 c19_7), (15, .int .i64 (m : Int))]) (bx' := []) (rw' := [rowE dLk (v) 93 qs]) (by kernel_rfl) (by kernel_rfl) (by kernel_rfl) ?_
      refine tri_seq ?_
      refine tri_seq ?_
      refine tri_reg mixed [.con (.slice A19_7 n19_7 c19_7), .con (.slice A9_2 n9_2 c9_2), .con (.int .i64 (sgnc ((nextR (dig U) m R) : Nat) (V : Nat))), .con (.bool (decide ((sgnc ((nextR (dig U) m R) : Nat) (V : Nat)) < 0)))] [7, 11, 12, 13, 14, 15, 76] [] [0] ?_ (by decide) ?_ ?_ _ _
      · kernel_rfl
      · exact ⟨pu, pu, cc fun f u w hs => (r01_Cmp (Lv.of (b := (lim N + 1)) (h19_7.sub dLk hs.old) (dig_lim _) (dig_val _) (lim_next hnx (Nat.le_of_eq hTl))) (Lv.of (b := (lim N)) (h9_2.sub dLk hs.old) (dig_lim _) (dig_val _) (Nat.le_of_eq hTl)) (by omega) (by omega)), pu, trivial⟩
      rintro p20 x20 u20 hg20 -
      replace h19_7 := h19_7.sub dLk hg20.1; replace h2_1 := h2_1.sub dLk hg20.1; replace h8_2 := h8_2.sub dLk hg20.1; replace h9_2 := h9_2.sub dLk hg20.1
      have hG20 := hG19.trans hg20
      refine next (g' := [(7, .slice A2_1 n2_1 c2_1), (11, .slice A8_2 n8_2 c8_2), (12, .slice A9_2 n9_2 c9_2), (13, v), (14, .slice A19_7 n19_7 c19_7), (15, .int .i64 (m : Int)), (76, .bool (decide ((sgnc ((nextR (dig U) m R) : Nat) (V : Nat)) < 0)))]) (bx' := []) (rw' := [rowE dLk (v) 93 qs]) (by kernel_rfl) (by kernel_rfl) (by kernel_rfl) ?_
      refine tri_cond (b := (decide ((sgnc ((nextR (dig U) m R) : Nat) (V : Nat)) < 0))) rfl (fun hc => ?_) (fun hc => ?_)
      · replace hc := of_decide_eq_true hc
        refine tri_exit ?_
        repeat refine pn_then (by simp) ?_
        refine pn_ex ?_
        refine next rfl rfl rfl ?_
        refine tri_reg mixed [.con (.int .i64 (m : Int)), .con (.int .i64 ((m : Int) - 1)), .con (.int .i64 ((m : Int) - 1))] [7, 11, 12, 13, 14, 15] [] [0] ?_ (by decide) ?_ ?_ _ _
        · kernel_rfl
        · exact ⟨pu, pw (w64 (n := (m : Int) - 1) (by omega)), pu, trivial⟩
        rintro p21 x21 u21 hg21 -
        replace h19_7 := h19_7.sub dLk hg21.1; replace h2_1 := h2_1.sub dLk hg21.1; replace h8_2 := h8_2.sub dLk hg21.1; replace h9_2 := h9_2.sub dLk hg21.1
        have hG21 := hG20.trans hg21
        exact PN.sub (g' := [(7, .slice A2_1 n2_1 c2_1), (11, .slice A8_2 n8_2 c8_2), (12, .slice A9_2 n9_2 c9_2), (13, v), (14, (.slice A19_7 n19_7 c19_7)), (15, .int .i64 ((m : Int) - 1))]) (bx' := []) (rw' := [rowE dLk (v) 93 qs]) ⟨rfl, rfl, rfl, rfl, (by first | rfl | (simp)), rfl, trivial⟩ rfl rfl (pn_at (m' := m) (by omega) ⟨m, (nextR (dig U) m R), qs, v, .slice A19_7 n19_7 c19_7, rfl, ((((hg13).trans hg18).trans hg19).trans hg20).trans hg21, by omega, dvI_skip hI (by omega) (dig_lim U) (sgnc_neg hc), LCv.of h19_7, rfl, rfl, rfl⟩)
      · replace hc := of_decide_eq_false hc
        refine tri_skip ?_
        refine next rfl rfl rfl ?_
        refine tri_seq ?_
        have hRV2 : V ≤ (nextR (dig U) m R) := Nat.le_of_not_lt fun h => by rw [sgnc_lt (by omega)] at hc; omega
        obtain ⟨c, hcb, hcg⟩ := guess_nat (m := t) (by omega) hT hnx; obtain ⟨Q, hQ⟩ : ∃ Q, Q = (nextR (dig U) m R) / V := ⟨_, rfl⟩; rw [← hQ] at hcb hcg; rw [show t + 1 = n9_2 by omega] at hcg
        have g1 := (dig_lim (nextR (dig U) m R)).at_ n9_2; have g2 := (dig_lim (nextR (dig U) m R)).at_ t; have g3 := (dig_lim V).at_ t; have hQR : V * Q ≤ (nextR (dig U) m R) := by rw [hQ]; exact Nat.mul_div_le _ _
        refine tri_reg mixed [.con (.slice A19_7 n19_7 c19_7), .con (.slice A9_2 n9_2 c9_2), .con (.int .i64 (n9_2 : Int)), .con (.int .u64 (at_ (dig (nextR (dig U) m R)) n9_2)), .con (.int .u64 ((at_ (dig (nextR (dig U) m R)) n9_2) * 4294967296)), .con (.slice A19_7 n19_7 c19_7), .con (.slice A9_2 n9_2 c9_2), .con (.int .i64 (n9_2 : Int)), .con (.int .i64 (t : Int)), .con (.int .u64 (at_ (dig (nextR (dig U) m R)) t)), .con (.int .u64 (((at_ (dig (nextR (dig U) m R)) n9_2) * 4294967296) + (at_ (dig (nextR (dig U) m R)) t))), .con (.slice A9_2 n9_2 c9_2), .con (.slice A9_2 n9_2 c9_2), .con (.int .i64 (n9_2 : Int)), .con (.int .i64 (t : Int)), .con (.int .u64 (at_ (dig V) t)), .con (.int .u64 ((at_ (dig (nextR (dig U) m R)) n9_2 * 4294967296 + at_ (dig (nextR (dig U) m R)) t) / at_ (dig V) t)), .con (.int .u64 ((at_ (dig (nextR (dig U) m R)) n9_2 * 4294967296 + at_ (dig (nextR (dig U) m R)) t) / at_ (dig V) t))] [7, 11, 12, 13, 14, 15, 16] [] [0] ?_ (by decide) ?_ ?_ _ _
        · kernel_rfl
        · exact ⟨pu, pu, pu, cc fun f u w hs => r01_limb (h19_7.sub dLk hs.old) (dig_lim _), pw (wu64 (n := (at_ (dig (nextR (dig U) m R)) n9_2) * 4294967296) (by omega)), pu, pu, pu, pw (w64 (n := (n9_2 : Int) - 1) (by omega)), cc fun f u w hs => r01_limb (h19_7.sub dLk hs.old) (dig_lim _), pw (wu64 (n := ((at_ (dig (nextR (dig U) m R)) n9_2) * 4294967296) + (at_ (dig (nextR (dig U) m R)) t)) (by omega)), pu, pu, pu, pw (w64 (n := (n9_2 : Int) - 1) (by omega)), cc fun f u w hs => r01_limb (h9_2.sub dLk hs.old) (dig_lim _), oq (by omega) (qu64 (n := (at_ (dig (nextR (dig U) m R)) n9_2 * 4294967296 + at_ (dig (nextR (dig U) m R)) t)) (d := at_ (dig V) t) ⟨rfl, by omega, by omega, by omega⟩), pu, trivial⟩
        rintro p22 x22 u22 hg22 -
        replace h19_7 := h19_7.sub dLk hg22.1; replace h2_1 := h2_1.sub dLk hg22.1; replace h8_2 := h8_2.sub dLk hg22.1; replace h9_2 := h9_2.sub dLk hg22.1
        have hG22 := hG20.trans hg22
        refine next (g' := [(7, .slice A2_1 n2_1 c2_1), (11, .slice A8_2 n8_2 c8_2), (12, .slice A9_2 n9_2 c9_2), (13, v), (14, .slice A19_7 n19_7 c19_7), (15, .int .i64 (m : Int)), (16, .int .u64 ((at_ (dig (nextR (dig U) m R)) n9_2 * 4294967296 + at_ (dig (nextR (dig U) m R)) t) / at_ (dig V) t))]) (bx' := []) (rw' := [rowE dLk (v) 93 qs]) (by kernel_rfl) (by kernel_rfl) (by kernel_rfl) ?_
        refine tri_seq ?_
        refine tri_seq ?_
        refine tri_reg mixed [.con (.int .u64 ((at_ (dig (nextR (dig U) m R)) n9_2 * 4294967296 + at_ (dig (nextR (dig U) m R)) t) / at_ (dig V) t)), .con (.bool (decide (4294967296 ≤ ((at_ (dig (nextR (dig U) m R)) n9_2 * 4294967296 + at_ (dig (nextR (dig U) m R)) t) / at_ (dig V) t))))] [7, 11, 12, 13, 14, 15, 16, 95] [] [0] ?_ (by decide) ?_ ?_ _ _
        · kernel_rfl
        · exact ⟨pu, pu, trivial⟩
        rintro p23 x23 u23 hg23 -
        replace h19_7 := h19_7.sub dLk hg23.1; replace h2_1 := h2_1.sub dLk hg23.1; replace h8_2 := h8_2.sub dLk hg23.1; replace h9_2 := h9_2.sub dLk hg23.1
        have hG23 := hG22.trans hg23
        refine next (g' := [(7, .slice A2_1 n2_1 c2_1), (11, .slice A8_2 n8_2 c8_2), (12, .slice A9_2 n9_2 c9_2), (13, v), (14, .slice A19_7 n19_7 c19_7), (15, .int .i64 (m : Int)), (16, .int .u64 ((at_ (dig (nextR (dig U) m R)) n9_2 * 4294967296 + at_ (dig (nextR (dig U) m R)) t) / at_ (dig V) t)), (95, .bool (decide (4294967296 ≤ ((at_ (dig (nextR (dig U) m R)) n9_2 * 4294967296 + at_ (dig (nextR (dig U) m R)) t) / at_ (dig V) t))))]) (bx' := []) (rw' := [rowE dLk (v) 93 qs]) (by kernel_rfl) (by kernel_rfl) (by kernel_rfl) ?_
        refine tri_cond (b := (decide (4294967296 ≤ ((at_ (dig (nextR (dig U) m R)) n9_2 * 4294967296 + at_ (dig (nextR (dig U) m R)) t) / at_ (dig V) t)))) rfl (fun hc => ?_) (fun hc => ?_)
        · replace hc := of_decide_eq_true hc
          refine tri_reg mixed [.con (.int .u64 4294967295)] [7, 11, 12, 13, 14, 15, 16] [] [0] ?_ (by decide) ?_ ?_ _ _
          · kernel_rfl
          · exact ⟨pu, trivial⟩
          rintro p24 x24 u24 hg24 -
          replace h19_7 := h19_7.sub dLk hg24.1; replace h2_1 := h2_1.sub dLk hg24.1; replace h8_2 := h8_2.sub dLk hg24.1; replace h9_2 := h9_2.sub dLk hg24.1
          have hG24 := hG23.trans hg24
          refine next (g' := [(7, .slice A2_1 n2_1 c2_1), (11, .slice A8_2 n8_2 c8_2), (12, .slice A9_2 n9_2 c9_2), (13, v), (14, .slice A19_7 n19_7 c19_7), (15, .int .i64 (m : Int)), (16, .int .u64 4294967295)]) (bx' := []) (rw' := [rowE dLk (v) 93 qs]) (by kernel_rfl) (by kernel_rfl) (by kernel_rfl) ?_
          refine tri_seq ?_
          have hgu := mn_big hcg (by omega)
          refine tri_sub (g' := [(7, .slice A2_1 n2_1 c2_1), (11, .slice A8_2 n8_2 c8_2), (12, .slice A9_2 n9_2 c9_2), (13, v), (14, .slice A19_7 n19_7 c19_7), (15, .int .i64 (m : Int)), (16, .int .u64 ((Q + c : Nat) : Int))]) ⟨rfl, rfl, rfl, rfl, rfl, rfl, (by first | rfl | (rw [hgu]; rfl)), trivial⟩ ?_
          refine tri_reg mixed [.con (.slice A9_2 n9_2 c9_2), .con (.int .u64 ((Q + c : Nat) : Int)), .con (.int .u32 ((Q + c : Nat) : Int)), .opq (fun u r => Sl dL u r [((Q + c : Nat) : Int)]), .opq (fun u r => LCv u r (V * (Q + c))), .cpy 4] [7, 11, 12, 13, 14, 15, 16, 17] [] [0] ?_ (by decide) ?_ ?_ _ _
          · kernel_rfl
          · exact ⟨pu, pu, pw (wu32 (n := ((Q + c : Nat) : Int)) (by omega)), bsL sl29, ca (LCv.m _) fun f u w hs => (r01_Mul (Lv.of (b := (lim N)) (h9_2.sub dLk hs.old) (dig_lim _) (dig_val _) (Nat.le_of_eq hTl)) (Lv.of (b := 1) (hs.opq 3 _ rfl rfl) (Lim.one (by omega) (by omega)) (val_one _) (Nat.le_refl 1)) (by omega) (by omega)), cp, trivial⟩
          rintro p25 x25 u25 hg25 ⟨q3, q4, -⟩
          replace h19_7 := h19_7.sub dLk hg25.1; replace h2_1 := h2_1.sub dLk hg25.1; replace h8_2 := h8_2.sub dLk hg25.1; replace h9_2 := h9_2.sub dLk hg25.1
          have hG25 := hG24.trans hg25
          obtain ⟨A25_4, n25_4, c25_4, e25_4, h25_4, l25_4, l25_4n, l25_4M⟩ := q4.open; rw [fun_upd (i := 4) e25_4]
          refine next (g' := [(7, .slice A2_1 n2_1 c2_1), (11, .slice A8_2 n8_2 c8_2), (12, .slice A9_2 n9_2 c9_2), (13, v), (14, .slice A19_7 n19_7 c19_7), (15, .int .i64 (m : Int)), (16, .int .u64 ((Q + c : Nat) : Int)), (17, .slice A25_4 n25_4 c25_4)]) (bx' := []) (rw' := [rowE dLk (v) 93 qs]) (by kernel_rfl) (by kernel_rfl) (by kernel_rfl) ?_
          refine tri_seq ?_
          refine tri_block ?_
          refine tri_loop (fun m_ g_ bx_ rw_ u_ => ∃ (e p : Nat) (pv : Value), (m_ = e ∧ Gr w0.heap.size u25 u_ ∧ e ≤ c ∧ p = V * (Q + e) ∧ LCv u_ pv p ∧ g_ = [(7, .slice A2_1 n2_1 c2_1), (11, .slice A8_2 n8_2 c8_2), (12, .slice A9_2 n9_2 c9_2), (13, v), (14, .slice A19_7 n19_7 c19_7), (15, .int .i64 (m : Int)), (16, .int .u64 ((Q + e : Nat) : Int)), (17, pv)] ∧ bx_ = [] ∧ rw_ = [rowE dLk (v) 93 qs])) (c) ⟨c, V * (Q + c), .slice A25_4 n25_4 c25_4, rfl, Gr.refl _ _, Nat.le_refl _, rfl, LCv.of h25_4, rfl, rfl, rfl⟩ ?_
          rintro m_ g_ bx_ rw_ u26 ⟨e, p, pv, hm_, hg26, he, hp, hLp, rfl, rfl, rfl⟩
          replace h19_7 := h19_7.sub dLk hg26.1; replace h25_4 := h25_4.sub dLk hg26.1; replace h2_1 := h2_1.sub dLk hg26.1; replace h8_2 := h8_2.sub dLk hg26.1; replace h9_2 := h9_2.sub dLk hg26.1
          have hG26 := hG25.trans hg26
          have hlp : lim p ≤ lim N + 1 := by rw [hp]; exact Nat.le_trans (lim_mul _ _) (Nat.add_le_add (Nat.le_of_eq hTl) (lim_small (by omega)))
          obtain ⟨pA, pn, pc, rfl, hpr, lp, lpn, lpM⟩ := hLp.open
          rcases Nat.eq_zero_or_pos e with he0 | he0
          · subst he0; rw [Nat.add_zero] at hp; have hpR : p ≤ (nextR (dig U) m R) := by omega
            refine tri_seq ?_
            refine tri_seq ?_
            refine tri_reg mixed [.con (.slice pA pn pc), .con (.slice A19_7 n19_7 c19_7), .con (.int .i64 (sgnc (p : Nat) ((nextR (dig U) m R) : Nat))), .con (.bool false)] [7, 11, 12, 13, 14, 15, 16, 17, 104] [] [0] ?_ (by decide) ?_ ?_ _ _
            · kernel_rfl
            · exact ⟨pu, pu, cc fun f u w hs => (r01_Cmp (Lv.of (b := (lim N + 1)) (hpr.sub dLk hs.old) (dig_lim _) (dig_val _) hlp) (Lv.of (b := (lim N + 1)) (h19_7.sub dLk hs.old) (dig_lim _) (dig_val _) (lim_next hnx (Nat.le_of_eq hTl))) (by omega) (by omega)), pw (bf (p := 0 < (sgnc (p : Nat) ((nextR (dig U) m R) : Nat))) (by exact sgnc_not hpR)), trivial⟩
            rintro p27 x27 u27 hg27 -
            replace h19_7 := h19_7.sub dLk hg27.1; replace h25_4 := h25_4.sub dLk hg27.1; replace h2_1 := h2_1.sub dLk hg27.1; replace h8_2 := h8_2.sub dLk hg27.1; replace h9_2 := h9_2.sub dLk hg27.1; replace hpr := hpr.sub dLk hg27.1
            have hG27 := hG26.trans hg27
            refine next (g' := [(7, .slice A2_1 n2_1 c2_1), (11, .slice A8_2 n8_2 c8_2), (12, .slice A9_2 n9_2 c9_2), (13, v), (14, .slice A19_7 n19_7 c19_7), (15, .int .i64 (m : Int)), (16, .int .u64 ((Q + 0 : Nat) : Int)), (17, .slice pA pn pc), (104, .bool false)]) (bx' := []) (rw' := [rowE dLk (v) 93 qs]) (by kernel_rfl) (by kernel_rfl) (by kernel_rfl) ?_
            refine tri_false rfl ?_
            refine tri_exit ?_
            repeat refine pn_then (by simp) ?_
            refine pn_ex ?_
            refine next rfl rfl rfl ?_
            refine tri_seq ?_
            refine tri_row 0 (hd := dLk) (l := qs) rfl fun A29 k29 e29 j29 i29 => ?_
            obtain ⟨b29, rfl⟩ := i29 (by omega)
            subst e29
            refine tri_reg mixed [.con (.slice (some ⟨b29, 0, none⟩) qs.length k29), .con (.int .i64 (m : Int)), .con (.int .u64 ((Q + 0 : Nat) : Int)), .con (.int .u32 (Q : Int)), .con (.pointer (some ((⟨b29, 0, none⟩ : Addr).add (((m : Int) : Int).toNat * 1)))), .rst 0 (rowE dLk (.slice (some ⟨b29, 0, none⟩) qs.length k29) 93 (qs.set m (Q : Int)))] [7, 11, 12, 13, 14, 15, 17] [] [0] ?_ (by decide) ?_ ?_ _ _
            · kernel_rfl
            · exact ⟨pu, pu, pu, pw (wu32 (n := ((Q + 0 : Nat) : Int)) (by omega)), ix (kk := .i64) (n := qs.length) (c := k29) sl29 rfl (by omega) (by omega), rsL (j := m) 0 ty93 (by omega) rfl rfl, trivial⟩
            rintro p28 x28 u28 hg28 -
            replace h19_7 := h19_7.sub dLk hg28.1; replace h2_1 := h2_1.sub dLk hg28.1; replace h8_2 := h8_2.sub dLk hg28.1; replace h9_2 := h9_2.sub dLk hg28.1; replace hpr := hpr.sub dLk hg28.1
            have hG28 := hG27.trans hg28
            refine next (g' := [(7, .slice A2_1 n2_1 c2_1), (11, .slice A8_2 n8_2 c8_2), (12, .slice A9_2 n9_2 c9_2), (13, .slice (some ⟨b29, 0, none⟩) qs.length k29), (14, .slice A19_7 n19_7 c19_7), (15, .int .i64 (m : Int)), (17, .slice pA pn pc)]) (bx' := []) (rw' := [rowE dLk (.slice (some ⟨b29, 0, none⟩) qs.length k29) 93 (qs.set m (Q : Int))]) (by kernel_rfl) (by kernel_rfl) (by kernel_rfl) ?_
            refine tri_reg mixed [.con (.slice A19_7 n19_7 c19_7), .con (.slice pA pn pc), .opq (fun u r => LCv u r ((nextR (dig U) m R) - p)), .cpy 2] [7, 11, 12, 13, 14, 15] [] [0] ?_ (by decide) ?_ ?_ _ _
            · kernel_rfl
            · exact ⟨pu, pu, ca (LCv.m _) fun f u w hs => (r01_less (Lv.of (b := (lim N + 1)) (h19_7.sub dLk hs.old) (dig_lim _) (dig_val _) (lim_next hnx (Nat.le_of_eq hTl))) (Lv.of (b := (lim N + 1)) (hpr.sub dLk hs.old) (dig_lim _) (dig_val _) hlp) (by omega) (by omega) (by omega)), cp, trivial⟩
            rintro p30 x30 u30 hg30 ⟨q2, -⟩
            replace h19_7 := h19_7.sub dLk hg30.1; replace h2_1 := h2_1.sub dLk hg30.1; replace h8_2 := h8_2.sub dLk hg30.1; replace h9_2 := h9_2.sub dLk hg30.1; replace hpr := hpr.sub dLk hg30.1
            have hG30 := hG28.trans hg30
            obtain ⟨A30_2, n30_2, c30_2, e30_2, h30_2, l30_2, l30_2n, l30_2M⟩ := q2.open; rw [fun_upd (i := 2) e30_2]
            refine pn_blk ?_
            refine next (g' := [(7, .slice A2_1 n2_1 c2_1), (11, .slice A8_2 n8_2 c8_2), (12, .slice A9_2 n9_2 c9_2), (13, .slice (some ⟨b29, 0, none⟩) qs.length k29), (14, .slice A30_2 n30_2 c30_2), (15, .int .i64 (m : Int))]) (bx' := []) (rw' := [rowE dLk (.slice (some ⟨b29, 0, none⟩) qs.length k29) 93 (qs.set m (Q : Int))]) (by kernel_rfl) (by kernel_rfl) (by kernel_rfl) ?_
            refine tri_reg mixed [.con (.int .i64 (m : Int)), .con (.int .i64 ((m : Int) - 1)), .con (.int .i64 ((m : Int) - 1))] [7, 11, 12, 13, 14, 15] [] [0] ?_ (by decide) ?_ ?_ _ _
            · kernel_rfl
            · exact ⟨pu, pw (w64 (n := (m : Int) - 1) (by omega)), pu, trivial⟩
            rintro p31 x31 u31 hg31 -
            replace h2_1 := h2_1.sub dLk hg31.1; replace h30_2 := h30_2.sub dLk hg31.1; replace h8_2 := h8_2.sub dLk hg31.1; replace h9_2 := h9_2.sub dLk hg31.1
            have hG31 := hG30.trans hg31
            exact PN.sub (g' := [(7, .slice A2_1 n2_1 c2_1), (11, .slice A8_2 n8_2 c8_2), (12, .slice A9_2 n9_2 c9_2), (13, (.slice (some ⟨b29, 0, none⟩) qs.length k29)), (14, (.slice A30_2 n30_2 c30_2)), (15, .int .i64 ((m : Int) - 1))]) (bx' := []) (rw' := [rowE dLk ((.slice (some ⟨b29, 0, none⟩) qs.length k29)) 93 (qs.set m (Q : Int))]) ⟨rfl, rfl, rfl, (by first | rfl | (simp)), (by first | rfl | (simp)), rfl, trivial⟩ rfl rfl (pn_at (m' := m) (by omega) ⟨m, ((nextR (dig U) m R) - p), qs.set m (Q : Int), .slice (some ⟨b29, 0, none⟩) qs.length k29, .slice A30_2 n30_2 c30_2, rfl, ((((((((((((hg13).trans hg18).trans hg19).trans hg20).trans hg22).trans hg23).trans hg24).trans hg25).trans hg26).trans hg27).trans hg28).trans hg30).trans hg31, by omega, dvI_put' hI (by omega) (dig_lim U) hV0 hQ hp, LCv.of h30_2, rfl, rfl, rfl⟩)
          · obtain ⟨e1, rfl⟩ : ∃ e1, e = e1 + 1 := ⟨e - 1, by omega⟩
            have hpp := mul_pred hp; have hpp1 := hpp.1; have hpp2 := hpp.2
            have hpg : (nextR (dig U) m R) < p := by rw [hp]; exact lt_mul_next hV0 hQ
            refine tri_seq ?_
            refine tri_seq ?_
            refine tri_reg mixed [.con (.slice pA pn pc), .con (.slice A19_7 n19_7 c19_7), .con (.int .i64 (sgnc (p : Nat) ((nextR (dig U) m R) : Nat))), .con (.bool true)] [7, 11, 12, 13, 14, 15, 16, 17, 104] [] [0] ?_ (by decide) ?_ ?_ _ _
            · kernel_rfl
            · exact ⟨pu, pu, cc fun f u w hs => (r01_Cmp (Lv.of (b := (lim N + 1)) (hpr.sub dLk hs.old) (dig_lim _) (dig_val _) hlp) (Lv.of (b := (lim N + 1)) (h19_7.sub dLk hs.old) (dig_lim _) (dig_val _) (lim_next hnx (Nat.le_of_eq hTl))) (by omega) (by omega)), pw (bt (p := 0 < (sgnc (p : Nat) ((nextR (dig U) m R) : Nat))) (by exact sgnc_yes hpg)), trivial⟩
            rintro p32 x32 u32 hg32 -
            replace h19_7 := h19_7.sub dLk hg32.1; replace h25_4 := h25_4.sub dLk hg32.1; replace h2_1 := h2_1.sub dLk hg32.1; replace h8_2 := h8_2.sub dLk hg32.1; replace h9_2 := h9_2.sub dLk hg32.1; replace hpr := hpr.sub dLk hg32.1
            have hG32 := hG26.trans hg32
            refine next (g' := [(7, .slice A2_1 n2_1 c2_1), (11, .slice A8_2 n8_2 c8_2), (12, .slice A9_2 n9_2 c9_2), (13, v), (14, .slice A19_7 n19_7 c19_7), (15, .int .i64 (m : Int)), (16, .int .u64 ((Q + (e1 + 1) : Nat) : Int)), (17, .slice pA pn pc), (104, .bool true)]) (bx' := []) (rw' := [rowE dLk (v) 93 qs]) (by kernel_rfl) (by kernel_rfl) (by kernel_rfl) ?_
            refine tri_true rfl ?_
            refine tri_skip ?_
            refine next rfl rfl rfl ?_
            refine tri_block ?_
            refine tri_seq ?_
            refine tri_reg mixed [.con (.int .u64 ((Q + (e1 + 1) : Nat) : Int)), .con (.int .u64 ((Q + e1 : Nat) : Int)), .con (.int .u64 ((Q + e1 : Nat) : Int))] [7, 11, 12, 13, 14, 15, 16, 17] [] [0] ?_ (by decide) ?_ ?_ _ _
            · kernel_rfl
            · exact ⟨pu, pw (wu64 (n := ((Q + (e1 + 1) : Nat) : Int) - 1) (by omega)), pu, trivial⟩
            rintro p33 x33 u33 hg33 -
            replace h19_7 := h19_7.sub dLk hg33.1; replace h2_1 := h2_1.sub dLk hg33.1; replace h8_2 := h8_2.sub dLk hg33.1; replace h9_2 := h9_2.sub dLk hg33.1; replace hpr := hpr.sub dLk hg33.1
            have hG33 := hG32.trans hg33
            refine next (g' := [(7, .slice A2_1 n2_1 c2_1), (11, .slice A8_2 n8_2 c8_2), (12, .slice A9_2 n9_2 c9_2), (13, v), (14, .slice A19_7 n19_7 c19_7), (15, .int .i64 (m : Int)), (16, .int .u64 ((Q + e1 : Nat) : Int)), (17, .slice pA pn pc)]) (bx' := []) (rw' := [rowE dLk (v) 93 qs]) (by kernel_rfl) (by kernel_rfl) (by kernel_rfl) ?_
            refine tri_reg mixed [.con (.slice pA pn pc), .con (.slice A9_2 n9_2 c9_2), .opq (fun u r => LCv u r (p - V)), .cpy 2] [7, 11, 12, 13, 14, 15, 16, 17] [] [0] ?_ (by decide) ?_ ?_ _ _
            · kernel_rfl
            · exact ⟨pu, pu, ca (LCv.m _) fun f u w hs => (r01_less (Lv.of (b := (lim N + 1)) (hpr.sub dLk hs.old) (dig_lim _) (dig_val _) hlp) (Lv.of (b := (lim N)) (h9_2.sub dLk hs.old) (dig_lim _) (dig_val _) (Nat.le_of_eq hTl)) (by omega) (by omega) (by omega)), cp, trivial⟩
            rintro p34 x34 u34 hg34 ⟨q2, -⟩
            replace h19_7 := h19_7.sub dLk hg34.1; replace h2_1 := h2_1.sub dLk hg34.1; replace h8_2 := h8_2.sub dLk hg34.1; replace h9_2 := h9_2.sub dLk hg34.1; replace hpr := hpr.sub dLk hg34.1
            have hG34 := hG33.trans hg34
            obtain ⟨A34_2, n34_2, c34_2, e34_2, h34_2, l34_2, l34_2n, l34_2M⟩ := q2.open; rw [fun_upd (i := 2) e34_2]
            refine pn_blk ?_
            exact PN.sub (g' := [(7, .slice A2_1 n2_1 c2_1), (11, .slice A8_2 n8_2 c8_2), (12, .slice A9_2 n9_2 c9_2), (13, v), (14, .slice A19_7 n19_7 c19_7), (15, .int .i64 (m : Int)), (16, .int .u64 ((Q + e1 : Nat) : Int)), (17, (.slice A34_2 n34_2 c34_2))]) (bx' := []) (rw' := [rowE dLk (v) 93 qs]) ⟨rfl, rfl, rfl, rfl, rfl, rfl, rfl, (by first | rfl | (simp)), trivial⟩ rfl rfl (pn_at (m' := e1) (by omega) ⟨e1, p - V, .slice A34_2 n34_2 c34_2, rfl, (((hg26).trans hg32).trans hg33).trans hg34, by omega, hpp2, LCv.of h34_2, rfl, rfl, rfl⟩)
        · replace hc := of_decide_eq_false hc
          refine tri_skip ?_
          refine next rfl rfl rfl ?_
          refine tri_seq ?_
          have hgu := mn_small hcg (by omega)
          refine tri_sub (g' := [(7, .slice A2_1 n2_1 c2_1), (11, .slice A8_2 n8_2 c8_2), (12, .slice A9_2 n9_2 c9_2), (13, v), (14, .slice A19_7 n19_7 c19_7), (15, .int .i64 (m : Int)), (16, .int .u64 ((Q + c : Nat) : Int)), (95, .bool (decide (4294967296 ≤ ((at_ (dig (nextR (dig U) m R)) n9_2 * 4294967296 + at_ (dig (nextR (dig U) m R)) t) / at_ (dig V) t))))]) ⟨rfl, rfl, rfl, rfl, rfl, rfl, (by first | rfl | (rw [hgu]; rfl)), rfl, trivial⟩ ?_
          refine tri_reg mixed [.con (.slice A9_2 n9_2 c9_2), .con (.int .u64 ((Q + c : Nat) : Int)), .con (.int .u32 ((Q + c : Nat) : Int)), .opq (fun u r => Sl dL u r [((Q + c : Nat) : Int)]), .opq (fun u r => LCv u r (V * (Q + c))), .cpy 4] [7, 11, 12, 13, 14, 15, 16, 17] [] [0] ?_ (by decide) ?_ ?_ _ _
          · kernel_rfl
          · exact ⟨pu, pu, pw (wu32 (n := ((Q + c : Nat) : Int)) (by omega)), bsL sl29, ca (LCv.m _) fun f u w hs => (r01_Mul (Lv.of (b := (lim N)) (h9_2.sub dLk hs.old) (dig_lim _) (dig_val _) (Nat.le_of_eq hTl)) (Lv.of (b := 1) (hs.opq 3 _ rfl rfl) (Lim.one (by omega) (by omega)) (val_one _) (Nat.le_refl 1)) (by omega) (by omega)), cp, trivial⟩
          rintro p35 x35 u35 hg35 ⟨q3, q4, -⟩
          replace h19_7 := h19_7.sub dLk hg35.1; replace h2_1 := h2_1.sub dLk hg35.1; replace h8_2 := h8_2.sub dLk hg35.1; replace h9_2 := h9_2.sub dLk hg35.1
          have hG35 := hG23.trans hg35
          obtain ⟨A35_4, n35_4, c35_4, e35_4, h35_4, l35_4, l35_4n, l35_4M⟩ := q4.open; rw [fun_upd (i := 4) e35_4]
          refine next (g' := [(7, .slice A2_1 n2_1 c2_1), (11, .slice A8_2 n8_2 c8_2), (12, .slice A9_2 n9_2 c9_2), (13, v), (14, .slice A19_7 n19_7 c19_7), (15, .int .i64 (m : Int)), (16, .int .u64 ((Q + c : Nat) : Int)), (17, .slice A35_4 n35_4 c35_4)]) (bx' := []) (rw' := [rowE dLk (v) 93 qs]) (by kernel_rfl) (by kernel_rfl) (by kernel_rfl) ?_
          refine tri_seq ?_
          refine tri_block ?_
          refine tri_loop (fun m_ g_ bx_ rw_ u_ => ∃ (e p : Nat) (pv : Value), (m_ = e ∧ Gr w0.heap.size u35 u_ ∧ e ≤ c ∧ p = V * (Q + e) ∧ LCv u_ pv p ∧ g_ = [(7, .slice A2_1 n2_1 c2_1), (11, .slice A8_2 n8_2 c8_2), (12, .slice A9_2 n9_2 c9_2), (13, v), (14, .slice A19_7 n19_7 c19_7), (15, .int .i64 (m : Int)), (16, .int .u64 ((Q + e : Nat) : Int)), (17, pv)] ∧ bx_ = [] ∧ rw_ = [rowE dLk (v) 93 qs])) (c) ⟨c, V * (Q + c), .slice A35_4 n35_4 c35_4, rfl, Gr.refl _ _, Nat.le_refl _, rfl, LCv.of h35_4, rfl, rfl, rfl⟩ ?_
          rintro m_ g_ bx_ rw_ u36 ⟨e, p, pv, hm_, hg36, he, hp, hLp, rfl, rfl, rfl⟩
          replace h19_7 := h19_7.sub dLk hg36.1; replace h2_1 := h2_1.sub dLk hg36.1; replace h35_4 := h35_4.sub dLk hg36.1; replace h8_2 := h8_2.sub dLk hg36.1; replace h9_2 := h9_2.sub dLk hg36.1
          have hG36 := hG35.trans hg36
          have hlp : lim p ≤ lim N + 1 := by rw [hp]; exact Nat.le_trans (lim_mul _ _) (Nat.add_le_add (Nat.le_of_eq hTl) (lim_small (by omega)))
          obtain ⟨pA, pn, pc, rfl, hpr, lp, lpn, lpM⟩ := hLp.open
          rcases Nat.eq_zero_or_pos e with he0 | he0
          · subst he0; rw [Nat.add_zero] at hp; have hpR : p ≤ (nextR (dig U) m R) := by omega
            refine tri_seq ?_
            refine tri_seq ?_
            refine tri_reg mixed [.con (.slice pA pn pc), .con (.slice A19_7 n19_7 c19_7), .con (.int .i64 (sgnc (p : Nat) ((nextR (dig U) m R) : Nat))), .con (.bool false)] [7, 11, 12, 13, 14, 15, 16, 17, 104] [] [0] ?_ (by decide) ?_ ?_ _ _
            · kernel_rfl
            · exact ⟨pu, pu, cc fun f u w hs => (r01_Cmp (Lv.of (b := (lim N + 1)) (hpr.sub dLk hs.old) (dig_lim _) (dig_val _) hlp) (Lv.of (b := (lim N + 1)) (h19_7.sub dLk hs.old) (dig_lim _) (dig_val _) (lim_next hnx (Nat.le_of_eq hTl))) (by omega) (by omega)), pw (bf (p := 0 < (sgnc (p : Nat) ((nextR (dig U) m R) : Nat))) (by exact sgnc_not hpR)), trivial⟩
            rintro p37 x37 u37 hg37 -
            replace h19_7 := h19_7.sub dLk hg37.1; replace h2_1 := h2_1.sub dLk hg37.1; replace h35_4 := h35_4.sub dLk hg37.1; replace h8_2 := h8_2.sub dLk hg37.1; replace h9_2 := h9_2.sub dLk hg37.1; replace hpr := hpr.sub dLk hg37.1
            have hG37 := hG36.trans hg37
            refine next (g' := [(7, .slice A2_1 n2_1 c2_1), (11, .slice A8_2 n8_2 c8_2), (12, .slice A9_2 n9_2 c9_2), (13, v), (14, .slice A19_7 n19_7 c19_7), (15, .int .i64 (m : Int)), (16, .int .u64 ((Q + 0 : Nat) : Int)), (17, .slice pA pn pc), (104, .bool false)]) (bx' := []) (rw' := [rowE dLk (v) 93 qs]) (by kernel_rfl) (by kernel_rfl) (by kernel_rfl) ?_
            refine tri_false rfl ?_
            refine tri_exit ?_
            repeat refine pn_then (by simp) ?_
            refine pn_ex ?_
            refine next rfl rfl rfl ?_
            refine tri_seq ?_
            refine tri_row 0 (hd := dLk) (l := qs) rfl fun A39 k39 e39 j39 i39 => ?_
            obtain ⟨b39, rfl⟩ := i39 (by omega)
            subst e39
            refine tri_reg mixed [.con (.slice (some ⟨b39, 0, none⟩) qs.length k39), .con (.int .i64 (m : Int)), .con (.int .u64 ((Q + 0 : Nat) : Int)), .con (.int .u32 (Q : Int)), .con (.pointer (some ((⟨b39, 0, none⟩ : Addr).add (((m : Int) : Int).toNat * 1)))), .rst 0 (rowE dLk (.slice (some ⟨b39, 0, none⟩) qs.length k39) 93 (qs.set m (Q : Int)))] [7, 11, 12, 13, 14, 15, 17] [] [0] ?_ (by decide) ?_ ?_ _ _
            · kernel_rfl
            · exact ⟨pu, pu, pu, pw (wu32 (n := ((Q + 0 : Nat) : Int)) (by omega)), ix (kk := .i64) (n := qs.length) (c := k39) sl29 rfl (by omega) (by omega), rsL (j := m) 0 ty93 (by omega) rfl rfl, trivial⟩
            rintro p38 x38 u38 hg38 -
            replace h19_7 := h19_7.sub dLk hg38.1; replace h2_1 := h2_1.sub dLk hg38.1; replace h8_2 := h8_2.sub dLk hg38.1; replace h9_2 := h9_2.sub dLk hg38.1; replace hpr := hpr.sub dLk hg38.1
            have hG38 := hG37.trans hg38
            refine next (g' := [(7, .slice A2_1 n2_1 c2_1), (11, .slice A8_2 n8_2 c8_2), (12, .slice A9_2 n9_2 c9_2), (13, .slice (some ⟨b39, 0, none⟩) qs.length k39), (14, .slice A19_7 n19_7 c19_7), (15, .int .i64 (m : Int)), (17, .slice pA pn pc)]) (bx' := []) (rw' := [rowE dLk (.slice (some ⟨b39, 0, none⟩) qs.length k39) 93 (qs.set m (Q : Int))]) (by kernel_rfl) (by kernel_rfl) (by kernel_rfl) ?_
            refine tri_reg mixed [.con (.slice A19_7 n19_7 c19_7), .con (.slice pA pn pc), .opq (fun u r => LCv u r ((nextR (dig U) m R) - p)), .cpy 2] [7, 11, 12, 13, 14, 15] [] [0] ?_ (by decide) ?_ ?_ _ _
            · kernel_rfl
            · exact ⟨pu, pu, ca (LCv.m _) fun f u w hs => (r01_less (Lv.of (b := (lim N + 1)) (h19_7.sub dLk hs.old) (dig_lim _) (dig_val _) (lim_next hnx (Nat.le_of_eq hTl))) (Lv.of (b := (lim N + 1)) (hpr.sub dLk hs.old) (dig_lim _) (dig_val _) hlp) (by omega) (by omega) (by omega)), cp, trivial⟩
            rintro p40 x40 u40 hg40 ⟨q2, -⟩
            replace h19_7 := h19_7.sub dLk hg40.1; replace h2_1 := h2_1.sub dLk hg40.1; replace h8_2 := h8_2.sub dLk hg40.1; replace h9_2 := h9_2.sub dLk hg40.1; replace hpr := hpr.sub dLk hg40.1
            have hG40 := hG38.trans hg40
            obtain ⟨A40_2, n40_2, c40_2, e40_2, h40_2, l40_2, l40_2n, l40_2M⟩ := q2.open; rw [fun_upd (i := 2) e40_2]
            refine pn_blk ?_
            refine next (g' := [(7, .slice A2_1 n2_1 c2_1), (11, .slice A8_2 n8_2 c8_2), (12, .slice A9_2 n9_2 c9_2), (13, .slice (some ⟨b39, 0, none⟩) qs.length k39), (14, .slice A40_2 n40_2 c40_2), (15, .int .i64 (m : Int))]) (bx' := []) (rw' := [rowE dLk (.slice (some ⟨b39, 0, none⟩) qs.length k39) 93 (qs.set m (Q : Int))]) (by kernel_rfl) (by kernel_rfl) (by kernel_rfl) ?_
            refine tri_reg mixed [.con (.int .i64 (m : Int)), .con (.int .i64 ((m : Int) - 1)), .con (.int .i64 ((m : Int) - 1))] [7, 11, 12, 13, 14, 15] [] [0] ?_ (by decide) ?_ ?_ _ _
            · kernel_rfl
            · exact ⟨pu, pw (w64 (n := (m : Int) - 1) (by omega)), pu, trivial⟩
            rintro p41 x41 u41 hg41 -
            replace h2_1 := h2_1.sub dLk hg41.1; replace h40_2 := h40_2.sub dLk hg41.1; replace h8_2 := h8_2.sub dLk hg41.1; replace h9_2 := h9_2.sub dLk hg41.1
            have hG41 := hG40.trans hg41
            exact PN.sub (g' := [(7, .slice A2_1 n2_1 c2_1), (11, .slice A8_2 n8_2 c8_2), (12, .slice A9_2 n9_2 c9_2), (13, (.slice (some ⟨b39, 0, none⟩) qs.length k39)), (14, (.slice A40_2 n40_2 c40_2)), (15, .int .i64 ((m : Int) - 1))]) (bx' := []) (rw' := [rowE dLk ((.slice (some ⟨b39, 0, none⟩) qs.length k39)) 93 (qs.set m (Q : Int))]) ⟨rfl, rfl, rfl, (by first | rfl | (simp)), (by first | rfl | (simp)), rfl, trivial⟩ rfl rfl (pn_at (m' := m) (by omega) ⟨m, ((nextR (dig U) m R) - p), qs.set m (Q : Int), .slice (some ⟨b39, 0, none⟩) qs.length k39, .slice A40_2 n40_2 c40_2, rfl, (((((((((((hg13).trans hg18).trans hg19).trans hg20).trans hg22).trans hg23).trans hg35).trans hg36).trans hg37).trans hg38).trans hg40).trans hg41, by omega, dvI_put' hI (by omega) (dig_lim U) hV0 hQ hp, LCv.of h40_2, rfl, rfl, rfl⟩)
          · obtain ⟨e1, rfl⟩ : ∃ e1, e = e1 + 1 := ⟨e - 1, by omega⟩
            have hpp := mul_pred hp; have hpp1 := hpp.1; have hpp2 := hpp.2
            have hpg : (nextR (dig U) m R) < p := by rw [hp]; exact lt_mul_next hV0 hQ
            refine tri_seq ?_
            refine tri_seq ?_
            refine tri_reg mixed [.con (.slice pA pn pc), .con (.slice A19_7 n19_7 c19_7), .con (.int .i64 (sgnc (p : Nat) ((nextR (dig U) m R) : Nat))), .con (.bool true)] [7, 11, 12, 13, 14, 15, 16, 17, 104] [] [0] ?_ (by decide) ?_ ?_ _ _
            · kernel_rfl
            · exact ⟨pu, pu, cc fun f u w hs => (r01_Cmp (Lv.of (b := (lim N + 1)) (hpr.sub dLk hs.old) (dig_lim _) (dig_val _) hlp) (Lv.of (b := (lim N + 1)) (h19_7.sub dLk hs.old) (dig_lim _) (dig_val _) (lim_next hnx (Nat.le_of_eq hTl))) (by omega) (by omega)), pw (bt (p := 0 < (sgnc (p : Nat) ((nextR (dig U) m R) : Nat))) (by exact sgnc_yes hpg)), trivial⟩
            rintro p42 x42 u42 hg42 -
            replace h19_7 := h19_7.sub dLk hg42.1; replace h2_1 := h2_1.sub dLk hg42.1; replace h35_4 := h35_4.sub dLk hg42.1; replace h8_2 := h8_2.sub dLk hg42.1; replace h9_2 := h9_2.sub dLk hg42.1; replace hpr := hpr.sub dLk hg42.1
            have hG42 := hG36.trans hg42
            refine next (g' := [(7, .slice A2_1 n2_1 c2_1), (11, .slice A8_2 n8_2 c8_2), (12, .slice A9_2 n9_2 c9_2), (13, v), (14, .slice A19_7 n19_7 c19_7), (15, .int .i64 (m : Int)), (16, .int .u64 ((Q + (e1 + 1) : Nat) : Int)), (17, .slice pA pn pc), (104, .bool true)]) (bx' := []) (rw' := [rowE dLk (v) 93 qs]) (by kernel_rfl) (by kernel_rfl) (by kernel_rfl) ?_
            refine tri_true rfl ?_
            refine tri_skip ?_
            refine next rfl rfl rfl ?_
            refine tri_block ?_
            refine tri_seq ?_
            refine tri_reg mixed [.con (.int .u64 ((Q + (e1 + 1) : Nat) : Int)), .con (.int .u64 ((Q + e1 : Nat) : Int)), .con (.int .u64 ((Q + e1 : Nat) : Int))] [7, 11, 12, 13, 14, 15, 16, 17] [] [0] ?_ (by decide) ?_ ?_ _ _
            · kernel_rfl
            · exact ⟨pu, pw (wu64 (n := ((Q + (e1 + 1) : Nat) : Int) - 1) (by omega)), pu, trivial⟩
            rintro p43 x43 u43 hg43 -
            replace h19_7 := h19_7.sub dLk hg43.1; replace h2_1 := h2_1.sub dLk hg43.1; replace h8_2 := h8_2.sub dLk hg43.1; replace h9_2 := h9_2.sub dLk hg43.1; replace hpr := hpr.sub dLk hg43.1
            have hG43 := hG42.trans hg43
            refine next (g' := [(7, .slice A2_1 n2_1 c2_1), (11, .slice A8_2 n8_2 c8_2), (12, .slice A9_2 n9_2 c9_2), (13, v), (14, .slice A19_7 n19_7 c19_7), (15, .int .i64 (m : Int)), (16, .int .u64 ((Q + e1 : Nat) : Int)), (17, .slice pA pn pc)]) (bx' := []) (rw' := [rowE dLk (v) 93 qs]) (by kernel_rfl) (by kernel_rfl) (by kernel_rfl) ?_
            refine tri_reg mixed [.con (.slice pA pn pc), .con (.slice A9_2 n9_2 c9_2), .opq (fun u r => LCv u r (p - V)), .cpy 2] [7, 11, 12, 13, 14, 15, 16, 17] [] [0] ?_ (by decide) ?_ ?_ _ _
            · kernel_rfl
            · exact ⟨pu, pu, ca (LCv.m _) fun f u w hs => (r01_less (Lv.of (b := (lim N + 1)) (hpr.sub dLk hs.old) (dig_lim _) (dig_val _) hlp) (Lv.of (b := (lim N)) (h9_2.sub dLk hs.old) (dig_lim _) (dig_val _) (Nat.le_of_eq hTl)) (by omega) (by omega) (by omega)), cp, trivial⟩
            rintro p44 x44 u44 hg44 ⟨q2, -⟩
            replace h19_7 := h19_7.sub dLk hg44.1; replace h2_1 := h2_1.sub dLk hg44.1; replace h8_2 := h8_2.sub dLk hg44.1; replace h9_2 := h9_2.sub dLk hg44.1; replace hpr := hpr.sub dLk hg44.1
            have hG44 := hG43.trans hg44
            obtain ⟨A44_2, n44_2, c44_2, e44_2, h44_2, l44_2, l44_2n, l44_2M⟩ := q2.open; rw [fun_upd (i := 2) e44_2]
            refine pn_blk ?_
            exact PN.sub (g' := [(7, .slice A2_1 n2_1 c2_1), (11, .slice A8_2 n8_2 c8_2), (12, .slice A9_2 n9_2 c9_2), (13, v), (14, .slice A19_7 n19_7 c19_7), (15, .int .i64 (m : Int)), (16, .int .u64 ((Q + e1 : Nat) : Int)), (17, (.slice A44_2 n44_2 c44_2))]) (bx' := []) (rw' := [rowE dLk (v) 93 qs]) ⟨rfl, rfl, rfl, rfl, rfl, rfl, rfl, (by first | rfl | (simp)), trivial⟩ rfl rfl (pn_at (m' := e1) (by omega) ⟨e1, p - V, .slice A44_2 n44_2 c44_2, rfl, (((hg36).trans hg42).trans hg43).trans hg44, by omega, hpp2, LCv.of h44_2, rfl, rfl, rfl⟩)

set_option maxRecDepth 100000 in
theorem r01_Gcd {u : World} {M N a b : Nat} {v0 : Value} {v1 : Value} (h0 : Lv u v0 M a) (h1 : Lv u v1 N b) (ha : a ≤ 1099511627776) (hb : b ≤ 1099511627776) : Fn Try.prog 131 #[v0, v1] u (fun u r => LCv u r (Nat.gcd M N)) := by
  obtain ⟨A0, n0, c0, xs0, rfl, h0, l0, b0, M0, L0, V0⟩ := h0.open
  obtain ⟨A1, n1, c1, xs1, rfl, h1, l1, b1, M1, L1, V1⟩ := h1.open
  have hlN := lim_val L1 V1 (show _ ≤ b by omega); have hlM := lim_val L0 V0 (show _ ≤ a by omega)
  refine fn_of (args := [_, _]) Try.func131 rfl (by show 2 ≤ 27; decide) ?_
  intro w0 hs0
  have hG0 := Gr.refl w0.heap.size u
  refine tri_seq ?_
  refine tri_reg mixed [.con (.slice none 0 0)] [0, 1] [] [] ?_ (by decide) ?_ ?_ _ _
  · kernel_rfl
  · exact ⟨pu, trivial⟩
  rintro p1 x1 u1 hg1 -
  replace h0 := h0.sub dLk hg1.1; replace h1 := h1.sub dLk hg1.1
  have hG1 := hG0.trans hg1
  refine next (g' := [(0, .slice A0 n0 c0), (1, .slice A1 n1 c1)]) (bx' := []) (rw' := []) (by kernel_rfl) (by kernel_rfl) (by kernel_rfl) ?_
  refine tri_seq ?_
  refine tri_reg mixed [.con (.slice A0 n0 c0), .opq (fun u r => LCv u r M), .cpy 1] [1, 5] [] [] ?_ (by decide) ?_ ?_ _ _
  · kernel_rfl
  · exact ⟨pu, ca (LCv.m _) fun f u w hs => (r01_NormV (Lv.of (b := a) (h0.sub dLk hs.old) L0 V0 (by rw [l0]; exact b0)) (by omega)), cp, trivial⟩
  rintro p2 x2 u2 hg2 ⟨q1, -⟩
  replace h0 := h0.sub dLk hg2.1; replace h1 := h1.sub dLk hg2.1
  have hG2 := hG1.trans hg2
  obtain ⟨A2_1, n2_1, c2_1, e2_1, h2_1, l2_1, l2_1n, l2_1M⟩ := q1.open; rw [fun_upd (i := 1) e2_1]
  refine next (g' := [(1, .slice A1 n1 c1), (5, .slice A2_1 n2_1 c2_1)]) (bx' := []) (rw' := []) (by kernel_rfl) (by kernel_rfl) (by kernel_rfl) ?_
  refine tri_seq ?_
  refine tri_reg mixed [.con (.slice A1 n1 c1), .opq (fun u r => LCv u r N), .cpy 1] [5, 6] [] [] ?_ (by decide) ?_ ?_ _ _
  · kernel_rfl
  · exact ⟨pu, ca (LCv.m _) fun f u w hs => (r01_NormV (Lv.of (b := b) (h1.sub dLk hs.old) L1 V1 (by rw [l1]; exact b1)) (by omega)), cp, trivial⟩
  rintro p3 x3 u3 hg3 ⟨q1, -⟩
  replace h1 := h1.sub dLk hg3.1; replace h2_1 := h2_1.sub dLk hg3.1
  have hG3 := hG2.trans hg3
  obtain ⟨A3_1, n3_1, c3_1, e3_1, h3_1, l3_1, l3_1n, l3_1M⟩ := q1.open; rw [fun_upd (i := 1) e3_1]
  refine next (g' := [(5, .slice A2_1 n2_1 c2_1), (6, .slice A3_1 n3_1 c3_1)]) (bx' := []) (rw' := []) (by kernel_rfl) (by kernel_rfl) (by kernel_rfl) ?_
  refine tri_seq ?_
  refine tri_block ?_
  refine tri_loop (fun m_ g_ bx_ rw_ u_ => ∃ (x y : Nat) (xv yv : Value), (m_ = y ∧ Gr w0.heap.size u3 u_ ∧ Nat.gcd x y = Nat.gcd M N ∧ lim x ≤ 1099511627776 ∧ lim y ≤ 1099511627776 ∧ LCv u_ xv x ∧ LCv u_ yv y ∧ g_ = [(5, xv), (6, yv)] ∧ bx_ = [] ∧ rw_ = [])) (N) ⟨M, N, .slice A2_1 n2_1 c2_1, .slice A3_1 n3_1 c3_1, rfl, Gr.refl _ _, rfl, by omega, by omega, LCv.of h2_1, LCv.of h3_1, rfl, rfl, rfl⟩ ?_
  rintro m_ g_ bx_ rw_ u4 ⟨x, y, xv, yv, hm_, hg4, hgg, hbx, hby, hLx, hLy, rfl, rfl, rfl⟩
  replace h2_1 := h2_1.sub dLk hg4.1; replace h3_1 := h3_1.sub dLk hg4.1
  have hG4 := hG3.trans hg4
  obtain ⟨xA, xn, xc, rfl, hxr, lx, lxn, lxM⟩ := hLx.open
  obtain ⟨yA, yn, yc, rfl, hyr, ly, lyn, lyM⟩ := hLy.open
  rcases Nat.eq_zero_or_pos y with hy0 | hy0
  · have hyl : lim y = 0 := by rw [hy0]; exact lim_zero
    have hgx : x = Nat.gcd M N := by rw [← hgg, hy0, Nat.gcd_zero_right]
    refine tri_seq ?_
    refine tri_seq ?_
    refine tri_reg mixed [.con (.slice yA yn yc), .con (.int .i64 (yn : Int)), .con (.bool false)] [5, 6, 16] [] [] ?_ (by decide) ?_ ?_ _ _
    · kernel_rfl
    · exact ⟨pu, pu, pw (bf (p := 0 < (yn : Int)) (by omega)), trivial⟩
    rintro p5 x5 u5 hg5 -
    replace h2_1 := h2_1.sub dLk hg5.1; replace h3_1 := h3_1.sub dLk hg5.1; replace hxr := hxr.sub dLk hg5.1; replace hyr := hyr.sub dLk hg5.1
    have hG5 := hG4.trans hg5
    refine next (g' := [(5, .slice xA xn xc), (6, .slice yA yn yc), (16, .bool false)]) (bx' := []) (rw' := []) (by kernel_rfl) (by kernel_rfl) (by kernel_rfl) ?_
    refine tri_false rfl ?_
    refine tri_exit ?_
    repeat refine pn_then (by simp) ?_
    refine pn_ex ?_
    refine next rfl rfl rfl ?_
    refine tri_seq ?_
    refine tri_reg mixed [.con (.slice xA xn xc), .con (.slice xA xn xc)] [4] [] [] ?_ (by decide) ?_ ?_ _ _
    · kernel_rfl
    · exact ⟨pu, pu, trivial⟩
    rintro p6 x6 u6 hg6 -
    replace hxr := hxr.sub dLk hg6.1; replace hyr := hyr.sub dLk hg6.1
    have hG6 := hG5.trans hg6
    refine next (g' := [(4, .slice xA xn xc)]) (bx' := []) (rw' := []) (by kernel_rfl) (by kernel_rfl) (by kernel_rfl) ?_
    exact tri_ret (ret1 rfl (.slice xA xn xc) rfl hG6 ((by rw [← hgx]; exact LCv.of hxr)))
  · have hyl := lim_ps hy0; have hym := Nat.mod_lt x hy0
    refine tri_seq ?_
    refine tri_seq ?_
    refine tri_reg mixed [.con (.slice yA yn yc), .con (.int .i64 (yn : Int)), .con (.bool true)] [5, 6, 16] [] [] ?_ (by decide) ?_ ?_ _ _
    · kernel_rfl
    · exact ⟨pu, pu, pw (bt (p := 0 < (yn : Int)) (by omega)), trivial⟩
    rintro p7 x7 u7 hg7 -
    replace h2_1 := h2_1.sub dLk hg7.1; replace h3_1 := h3_1.sub dLk hg7.1; replace hxr := hxr.sub dLk hg7.1; replace hyr := hyr.sub dLk hg7.1
    have hG7 := hG4.trans hg7
    refine next (g' := [(5, .slice xA xn xc), (6, .slice yA yn yc), (16, .bool true)]) (bx' := []) (rw' := []) (by kernel_rfl) (by kernel_rfl) (by kernel_rfl) ?_
    refine tri_true rfl ?_
    refine tri_skip ?_
    refine next rfl rfl rfl ?_
    refine tri_block ?_
    refine tri_seq ?_
    refine tri_reg mixed [.con (.slice xA xn xc), .con (.slice yA yn yc), .opq (Tup3 (fun u r => LCv u r (x / y)) (fun u r => LCv u r (x % y)) (Is (.int .i64 0))), .opq (Tup3 (fun u r => LCv u r (x / y)) (fun u r => LCv u r (x % y)) (Is (.int .i64 0))), .opq (fun u r => LCv u r (x / y)), .opq (fun u r => LCv u r (x % y)), .con (.int .i64 0), .cpy 4, .cpy 5, .con (.int .i64 0)] [6, 8] [] [] ?_ (by decide) ?_ ?_ _ _
    · kernel_rfl
    · exact ⟨pu, pu, ca (Tup3.mono (LCv.m _) (LCv.m _) (Is.mono _)) fun f u w hs => (r01_Div (Lv.of (b := 1099511627776) (hxr.sub dLk hs.old) (dig_lim _) (dig_val _) hbx) (Lv.of (b := 1099511627776) (hyr.sub dLk hs.old) (dig_lim _) (dig_val _) hby) (by omega) (by omega) (by omega)), mv 2 (Tup3.mono (LCv.m _) (LCv.m _) (Is.mono _)), ex3a 3 (LCv.m _), ex3b 3 (LCv.m _), ex3c 3, cp, cp, pu, trivial⟩
    rintro p8 x8 u8 hg8 ⟨q2, q3, q4, q5, -⟩
    replace hxr := hxr.sub dLk hg8.1; replace hyr := hyr.sub dLk hg8.1
    have hG8 := hG7.trans hg8
    obtain ⟨A8_5, n8_5, c8_5, e8_5, h8_5, l8_5, l8_5n, l8_5M⟩ := q5.open; rw [fun_upd (i := 5) e8_5]
    refine next (g' := [(6, .slice yA yn yc), (8, .slice A8_5 n8_5 c8_5)]) (bx' := []) (rw' := []) (by kernel_rfl) (by kernel_rfl) (by kernel_rfl) ?_
    refine tri_seq ?_
    refine tri_reg mixed [.con (.slice yA yn yc), .con (.slice yA yn yc)] [5, 8] [] [] ?_ (by decide) ?_ ?_ _ _
    · kernel_rfl
    · exact ⟨pu, pu, trivial⟩
    rintro p9 x9 u9 hg9 -
    replace h8_5 := h8_5.sub dLk hg9.1; replace hyr := hyr.sub dLk hg9.1
    have hG9 := hG8.trans hg9
    refine next (g' := [(5, .slice yA yn yc), (8, .slice A8_5 n8_5 c8_5)]) (bx' := []) (rw' := []) (by kernel_rfl) (by kernel_rfl) (by kernel_rfl) ?_
    refine tri_reg mixed [.con (.slice A8_5 n8_5 c8_5), .con (.slice A8_5 n8_5 c8_5)] [5, 6] [] [] ?_ (by decide) ?_ ?_ _ _
    · kernel_rfl
    · exact ⟨pu, pu, trivial⟩
    rintro p10 x10 u10 hg10 -
    replace h8_5 := h8_5.sub dLk hg10.1; replace hyr := hyr.sub dLk hg10.1
    have hG10 := hG9.trans hg10
    refine pn_blk ?_
    exact PN.sub (g' := [(5, (.slice yA yn yc)), (6, (.slice A8_5 n8_5 c8_5))]) (bx' := []) (rw' := []) ⟨(by first | rfl | (simp)), (by first | rfl | (simp)), trivial⟩ rfl rfl (pn_at (m' := (x % y)) (by omega) ⟨y, x % y, .slice yA yn yc, .slice A8_5 n8_5 c8_5, rfl, ((((hg4).trans hg7).trans hg8).trans hg9).trans hg10, by rw [← hgg, Nat.gcd_comm x y, Nat.gcd_rec y x, Nat.gcd_comm], by omega, Nat.le_trans (lim_mono (Nat.mod_le _ _)) hbx, LCv.of hyr, LCv.of h8_5, rfl, rfl, rfl⟩)
end Go.Proofs.Ytaagioghkicdkaa
