/- Contracts of package nat: shifts, division. -/
import Derived.Test.YtekghdfbhbhigaaGreatDoorRows
import Derived.ChangeSame
import Derived.ChangeSlices
import Derived.Deep.Slices
import Derived.ProofKit
import Derived.ChangeArms
import Ieee.Arith
import GoSem.Core.Float
import GoSem.Op.Unary
import Derived.Laws.FloatArith
import Derived.Laws.Externs
import Derived.Test.YtekghdfbhbhigaaGreatDoorM02
set_option linter.unusedVariables false
set_option linter.unusedSimpArgs false
set_option maxRecDepth 100000
namespace Go.Proofs.YtekghdfbhbhigaaGreatDoor.V
open Go.RowKit Mt Nml
theorem same_val : ∀ {xs ys : List Int}, Lim xs → Lim ys → xs.length = ys.length → val xs = val ys → xs = ys
  | [], [], _, _, _, _ => rfl
  | [], _ :: _, _, _, h, _ => by simp at h
  | _ :: _, [], _, _, h, _ => by simp at h
  | x :: r, y :: s, h1, h2, h3, h4 => by
    have a1 := h1.at_ 0; have a2 := h2.at_ 0
    simp only [at_, List.getD_cons_zero] at a1 a2
    have l1 : Lim r := by simpa using h1.drop 1
    have l2 : Lim s := by simpa using h2.drop 1
    rw [val_cons, val_cons] at h4
    have e := same_val l1 l2 (by simpa using h3) (by omega)
    subst e
    rw [show x = y from by omega]
/-- Limbs, filled up with noughts. -/
def pad (V n : Nat) : List Int := dig V ++ List.replicate (n - (dig V).length) 0
theorem pad_length {V n : Nat} (h : lim V ≤ n) : (pad V n).length = n := by unfold lim at h; simp [pad]; omega
theorem pad_lim (V n : Nat) : Lim (pad V n) := (dig_lim V).append (Lim.noughts _)
theorem pad_val (V n : Nat) : val (pad V n) = V := by unfold pad; rw [val_append, val_noughts, dig_val]; omega
theorem pad_of {zs : List Int} {V : Nat} (hl : Lim zs) (hv : val zs = V) : zs = pad V zs.length := same_val hl (pad_lim _ _) (by rw [pad_length (lim_le (by rw [← hv]; exact val_lt hl))]) (by rw [pad_val, hv])
theorem pad_take (V n : Nat) : (pad V n).take (lim V) = dig V := by unfold pad lim; rw [List.take_left]
theorem tl_lim {xs : List Int} {V : Nat} (hl : Lim xs) (hv : val xs = V) : tl xs xs.length = lim V := by
  have := trim_dig hl hv
  have h := congrArg List.length this
  rw [List.length_take, Nat.min_eq_left (Mt.tl_le _ _)] at h
  exact h
theorem tl_pad {V n : Nat} (h : lim V ≤ n) : tl (pad V n) n = lim V := by
  have := tl_lim (pad_lim V n) (pad_val V n)
  rwa [pad_length h] at this
theorem nil_dig {N : Nat} (h : N = 0) : (T.c (.slice none 0 0)).le (T.l cU (dig N)) := by subst h; rw [dig_zero]; exact nil_l cU

theorem nat_trimV515 {xs : List Int} {n : Nat} (hs : n ≤ 4611686018427387904) (hn : n ≤ xs.length) : Fn Tryz.prog 52 [T.v 515 0 n] [(515, Ent.row cU 78 (xs))] [(515, Ent.row cU 78 (xs))] [] (T.v 515 0 (tl xs n)) := by
  refine fn_of Tryz.func52 rfl (by show 1 ≤ 21; decide) fun cx hcx => ?_
  refine tri_sub (sl 0 rfl sn) (el 515 rfl en) ?_
  refine tri_seq ?_
  refine tri_reg mixed hcx ?_ _ _
  refine asg rfl ?_
  refine ⟨by kernel_rfl, ?_⟩
  refine nx (sl 0 rfl sn) (el 515 rfl en) ?_
  refine tri_seq ?_
  refine tri_block ?_
  refine tri_loop (ι := Nat) (fun k => [(0, T.v 515 0 k)]) (fun k => [(515, some (Ent.row cU 78 (xs)))]) (fun k => k) (fun k => (k ≤ n) ∧ (tl xs k = tl xs n)) n ⟨Nat.le_refl _, rfl⟩ (sl 0 rfl sn) (el 515 rfl en) ?_
  rintro k ⟨hk, ht⟩
  refine tri_sub (sl 0 rfl sn) (el 515 rfl en) ?_
  refine tri_seq ?_
  refine tri_seq ?_
  rcases Nat.eq_zero_or_pos k with h0 | h0
  · subst h0
    refine tri_reg mixed hcx ?_ _ _
    refine mv rfl ?_
    refine lnv slLs rfl ?_
    refine cgt rfl rfl (decide_eq_false (by simp)) ?_
    refine mv rfl ?_
    refine j_off rfl rfl rfl rfl ?_
    refine j_off rfl rfl rfl rfl ?_
    refine j_off rfl rfl rfl rfl ?_
    refine j_off rfl rfl rfl rfl ?_
    refine j_off rfl rfl rfl rfl ?_
    refine j_off rfl rfl rfl rfl ?_
    refine j_off rfl rfl rfl rfl ?_
    refine pk rfl rfl ?_
    refine ⟨by kernel_rfl, ?_⟩
    refine nx (sl 0 rfl (sl 14 rfl sn)) (el 515 rfl en) ?_
    refine tri_false rfl rfl ?_
    refine tri_exit ?_
    repeat (first | refine pn_then ?_ | refine pn_oth (by decide) ?_)
    refine pn_ex ?_
    refine nx (sl 0 rfl sn) (el 515 rfl en) ?_
    refine tri_seq ?_
    refine tri_reg mixed hcx ?_ _ _
    refine mv rfl ?_
    refine asg rfl ?_
    refine ⟨by kernel_rfl, ?_⟩
    refine nx (sl 2 rfl sn) (el 515 rfl en) ?_
    refine tri_ret ?_
    repeat (first | refine pn_thenr ?_ | refine pn_blkr ?_)
    exact ret1 hcx rfl (rv_tmp rfl) (.of (by rw [← ht]; first | rfl | simp [tl, hc])) (el 515 rfl en)
  · obtain ⟨m, rfl⟩ : ∃ m, k = m + 1 := ⟨k - 1, by omega⟩
    refine tri_reg mixed hcx ?_ _ _
    refine mv rfl ?_
    refine lnv slLs rfl ?_
    refine cgt rfl rfl (decide_eq_true (by omega)) ?_
    refine mv rfl ?_
    refine mv rfl ?_ (hg := gd1)
    refine mv rfl ?_ (hg := gd1)
    refine lnv slLs rfl ?_ (hg := gd1)
    refine sb ((m : Int)) rfl rfl rfl (by omega) ?_ (hg := gd1)
    refine ixv rfl rfl slLs ⟨rfl, by omega⟩ ?_ (hg := gd1)
    refine lo m rfl rfl tyU32 ⟨(by show 0 + m = m * 1; omega), rfl, by omega⟩ ?_ (hg := gd1)
    refine ceq rfl rfl rfl ?_ (hg := gd1)
    refine pk rfl rfl ?_
    refine ⟨by kernel_rfl, ?_⟩
    refine nx (sl 0 rfl (sl 14 rfl sn)) (el 515 rfl en) ?_
    refine tri_if rfl (fun hc => ?_) (fun hc => ?_)
    · rw [getD_at] at hc
      refine tri_skip ?_
      refine nx (sl 0 rfl sn) (el 515 rfl en) ?_
      refine tri_block ?_
      refine tri_reg mixed hcx ?_ _ _
      refine mv rfl ?_
      refine mv rfl ?_
      refine lnv slLs rfl ?_
      refine sb ((m : Int)) rfl rfl rfl (by omega) ?_
      refine shv rfl slLs rfl ⟨rfl, by omega⟩ ?_
      refine asg rfl ?_
      refine ⟨by kernel_rfl, ?_⟩
      refine pn_blk ?_
      exact pn_back m (by first | omega | (dsimp only; omega)) ⟨by omega, by rw [← ht]; simp [tl, hc]⟩ (sl 0 rfl sn) (el 515 rfl en)
    · rw [getD_at] at hc
      refine tri_exit ?_
      repeat (first | refine pn_then ?_ | refine pn_oth (by decide) ?_)
      refine pn_ex ?_
      refine nx (sl 0 rfl sn) (el 515 rfl en) ?_
      refine tri_seq ?_
      refine tri_reg mixed hcx ?_ _ _
      refine mv rfl ?_
      refine asg rfl ?_
      refine ⟨by kernel_rfl, ?_⟩
      refine nx (sl 2 rfl sn) (el 515 rfl en) ?_
      refine tri_ret ?_
      repeat (first | refine pn_thenr ?_ | refine pn_blkr ?_)
      exact ret1 hcx rfl (rv_tmp rfl) (.of (by rw [← ht]; first | rfl | simp [tl, hc])) (el 515 rfl en)

theorem nat_shl {N n k : Nat} (hN : 0 < N) (hk : k ≤ 8796093022208) (hn : n ≤ 8796093022208) : Fn Tryz.prog 105 [T.L N k, T.c (.int .i64 (n : Int))] [] [(515, Ent.row cU 78 (pad (N * 2 ^ n) ((dig N).length + n / 32 + 1)))] [515] (T.v 515 0 (lim (N * 2 ^ n))) := by
  refine fn_of Tryz.func105 rfl (by show 2 ≤ 60; decide) fun cx hcx => ?_
  refine tri_sub (sl 0 rfl (sl 1 rfl sn)) en ?_
  refine tri_ex 0 rfl fun xs ⟨hl0, hv0, hb0⟩ => ?_
  have hM := lim_val hl0 hv0 hb0; have hp := lim_ps hN; unfold lim at hM hp
  have hr : n % 32 < 32 := by omega
  refine tri_seq ?_
  refine tri_reg mixed hcx ?_ _ _
  refine asg rfl ?_
  refine ⟨by kernel_rfl, ?_⟩
  refine nx (sl 0 rfl (sl 1 rfl sn)) en ?_
  refine tri_seq ?_
  refine tri_reg mixed hcx ?_ _ _
  refine mv rfl ?_
  refine ca rfl (h := nat_trim (by omega)) (hn := ?_)
  refine asg rfl ?_
  refine ⟨by kernel_rfl, ?_⟩
  refine nx (sl 0 rfl (sl 1 rfl sn)) en ?_
  refine tri_seq ?_
  refine tri_seq ?_
  refine tri_reg mixed hcx ?_ _ _
  refine mv rfl ?_
  refine ln slLs rfl ?_
  refine ceq rfl rfl (decide_eq_false (by omega)) ?_
  refine ⟨by kernel_rfl, ?_⟩
  refine nx (sl 0 rfl (sl 1 rfl (sl 14 rfl sn))) en ?_
  refine tri_false rfl rfl ?_
  refine tri_skip ?_
  refine nx (sl 0 rfl (sl 1 rfl sn)) en ?_
  refine tri_seq ?_
  refine tri_reg mixed hcx ?_ _ _
  refine mv rfl ?_
  refine qo (((n / 32 : Nat) : Int)) rfl rfl rfl (by omega) ?_
  refine mv rfl ?_
  refine re (((n % 32 : Nat) : Int)) rfl rfl (by omega) ?_
  refine cvt _ rfl cvIU rfl ⟨rfl, by omega, by omega⟩ ?_
  refine asg rfl ?_
  refine asg rfl ?_
  refine ⟨by kernel_rfl, ?_⟩
  refine nx (sl 0 rfl (sl 5 rfl (sl 6 rfl sn))) en ?_
  refine tri_seq ?_
  refine tri_reg mixed hcx ?_ _ _
  refine mv rfl ?_
  refine ln slLs rfl ?_
  refine mv rfl ?_
  refine ad ((((dig N).length + n / 32 : Nat) : Int)) rfl rfl rfl (by omega) ?_
  refine ad ((((dig N).length + n / 32 + 1 : Nat) : Int)) rfl rfl rfl (by omega) ?_
  refine mkz (c := cU) (n := (dig N).length + n / 32 + 1) 515 slLs rfl (by omega) (fun u => ⟨zvU32, zrU u⟩) (by decide) ?_
  refine asg rfl ?_
  refine ⟨by kernel_rfl, ?_⟩
  refine nx (sl 0 rfl (sl 5 rfl (sl 6 rfl (sl 7 rfl sn)))) (el 515 rfl en) ?_
  refine tri_seq ?_
  refine tri_seq ?_
  refine tri_reg mixed hcx ?_ _ _
  refine mv rfl ?_
  refine ln slLs rfl ?_
  refine mv rfl ?_
  refine ⟨by kernel_rfl, ?_⟩
  refine nx (sl 0 rfl (sl 5 rfl (sl 6 rfl (sl 7 rfl (sl 27 rfl (sl 28 rfl sn)))))) (el 515 rfl en) ?_
  refine tri_block ?_
  refine tri_loop (ι := Nat × List Int) (fun (k, zs) => [(0, T.l cU (dig N)), (5, T.c (.int .i64 ((n / 32 : Nat) : Int))), (6, T.c (.int .u64 ((n % 32 : Nat) : Int))), (7, T.o 515), (27, T.c (.int .i64 ((dig N).length : Int))), (28, T.c (.int .i64 (k : Int)))]) (fun (k, zs) => [(515, some (Ent.row cU 78 (zs)))]) (fun (k, zs) => (dig N).length - k) (fun (k, zs) => (k ≤ (dig N).length) ∧ (shlI (dig N) zs ((dig N).length + n / 32 + 1) (n / 32) (2 ^ (n % 32)) k)) (0, List.replicate ((dig N).length + n / 32 + 1) 0) ⟨Nat.zero_le _, shlI_start _ _ _ (pow2_pos _)⟩ (sl 0 rfl (sl 5 rfl (sl 6 rfl (sl 7 rfl (sl 27 rfl (sl 28 rfl sn)))))) (el 515 rfl en) ?_
  rintro ⟨k, zs⟩ ⟨hk, hI⟩
  refine tri_sub (sl 0 rfl (sl 5 rfl (sl 6 rfl (sl 7 rfl (sl 27 rfl (sl 28 rfl sn)))))) (el 515 rfl en) ?_
  refine tri_seq ?_
  refine tri_reg mixed hcx ?_ _ _
  refine clt rfl rfl rfl ?_
  refine ⟨by kernel_rfl, ?_⟩
  refine nx (sl 0 rfl (sl 5 rfl (sl 6 rfl (sl 7 rfl (sl 27 rfl (sl 28 rfl (sl 29 rfl sn))))))) (el 515 rfl en) ?_
  refine tri_seq ?_
  refine tri_if rfl (fun hc => ?_) (fun hc => ?_)
  · have bx := gd (dig_lim N) k; have bz := gd hI.lim (k + n / 32); have hlz := hI.1; have ht := hI.top; rw [← getD_at] at ht
    obtain ⟨l1, l2, l3, l4, l5⟩ := shl_limb hr bx.1 bx.2; have l6 := pow2_le hr
    refine tri_skip ?_
    refine nx (sl 0 rfl (sl 5 rfl (sl 6 rfl (sl 7 rfl (sl 27 rfl (sl 28 rfl sn)))))) (el 515 rfl en) ?_
    refine tri_seq ?_
    refine tri_block ?_
    refine tri_seq ?_
    refine tri_reg mixed hcx ?_ _ _
    refine mv rfl ?_
    refine asg rfl ?_
    refine ⟨by kernel_rfl, ?_⟩
    refine nx (sl 0 rfl (sl 5 rfl (sl 6 rfl (sl 7 rfl (sl 8 rfl (sl 27 rfl (sl 28 rfl sn))))))) (el 515 rfl en) ?_
    refine tri_seq ?_
    refine tri_reg mixed hcx ?_ _ _
    refine mv rfl ?_
    refine mv rfl ?_
    refine ix rfl rfl slLs ⟨rfl, by omega⟩ ?_
    refine lf rfl tyU32 ?_
    refine cvt _ rfl cvU32U64 rfl ⟨rfl, by omega, by omega⟩ ?_
    refine mv rfl ?_
    refine shL (s := n % 32) ((dig N).getD k cU.dflt * 2 ^ (n % 32)) rfl rfl rfl rfl ⟨rfl, l1, (by omega), (by show n % 32 ≤ 64; omega)⟩ ?_
    refine asg rfl ?_
    refine ⟨by kernel_rfl, ?_⟩
    refine nx (sl 0 rfl (sl 5 rfl (sl 6 rfl (sl 7 rfl (sl 8 rfl (sl 9 rfl (sl 27 rfl (sl 28 rfl sn)))))))) (el 515 rfl en) ?_
    refine tri_seq ?_
    refine tri_reg mixed hcx ?_ _ _
    refine mv rfl ?_
    refine mv rfl ?_
    refine mv rfl ?_
    refine ad (((k + n / 32 : Nat) : Int)) rfl rfl rfl (by omega) ?_
    refine ixo rfl rfl rfl slLs ⟨rfl, by omega⟩ ?_
    refine lo _ rfl rfl tyU32 ⟨rfl, rfl, by omega⟩ ?_
    refine mv rfl ?_
    refine cvm _ rfl cvU64U32 rfl ?_
    refine orr (zs.getD (k + n / 32) cU.dflt + (dig N).getD k cU.dflt * 2 ^ (n % 32) % 4294967296) rfl rfl (by rw [or_u32_swap bz.1 bz.2 (by omega) (by omega), or_u32 (n % 32) (by omega) (by omega) l3 bz.1 ht.2 bz.2, Int.add_comm]) ?_
    refine ixo rfl rfl rfl slLs ⟨rfl, by omega⟩ ?_
    refine so rfl rfl rfl (.refl _) tyU32 ⟨rfl, by omega⟩ ?_
    refine ⟨by kernel_rfl, ?_⟩
    refine nx (sl 0 rfl (sl 5 rfl (sl 6 rfl (sl 7 rfl (sl 8 rfl (sl 9 rfl (sl 27 rfl (sl 28 rfl sn)))))))) (el 515 rfl en) ?_
    have hl2 : (zs.set (k + n / 32) (zs.getD (k + n / 32) cU.dflt + (dig N).getD k cU.dflt * 2 ^ (n % 32) % 4294967296)).length = zs.length := List.length_set
    refine tri_reg mixed hcx ?_ _ _
    refine mv rfl ?_
    refine mv rfl ?_
    refine mv rfl ?_
    refine ad (((k + n / 32 : Nat) : Int)) rfl rfl rfl (by omega) ?_
    refine ad (((k + n / 32 + 1 : Nat) : Int)) rfl rfl rfl (by omega) ?_
    refine mv rfl ?_
    refine shR (s := 32) ((dig N).getD k cU.dflt * 2 ^ (n % 32) / 4294967296) rfl rfl rfl ⟨by omega, by omega, by decide⟩ ?_
    refine cvm ((dig N).getD k cU.dflt * 2 ^ (n % 32) / 4294967296) rfl cvU64U32 (by omega) ?_
    refine ixo rfl rfl rfl slLs ⟨rfl, by omega⟩ ?_
    refine so rfl rfl rfl (.refl _) tyU32 ⟨rfl, by omega⟩ ?_
    refine ⟨by kernel_rfl, ?_⟩
    refine pn_blk ?_
    refine nx (sl 0 rfl (sl 5 rfl (sl 6 rfl (sl 7 rfl (sl 27 rfl (sl 28 rfl sn)))))) (el 515 rfl en) ?_
    refine tri_reg mixed hcx ?_ _ _
    refine ad (((k + 1 : Nat) : Int)) rfl rfl rfl (by omega) ?_
    refine mv rfl ?_
    refine ⟨by kernel_rfl, ?_⟩
    exact pn_back (k + 1, (zs.set (k + n / 32) (zs.getD (k + n / 32) cU.dflt + (dig N).getD k cU.dflt * 2 ^ (n % 32) % 4294967296)).set (k + n / 32 + 1) ((dig N).getD k cU.dflt * 2 ^ (n % 32) / 4294967296)) (by first | omega | (dsimp only; omega)) ⟨by omega, shlI_step hI hr (by omega) (by omega) (dig_lim N)⟩ (sl 0 rfl (sl 5 rfl (sl 6 rfl (sl 7 rfl (sl 27 rfl (sl 28 rfl sn)))))) (el 515 rfl en)
  · refine tri_exit ?_
    repeat (first | refine pn_then ?_ | refine pn_oth (by decide) ?_)
    refine pn_ex ?_
    obtain rfl : k = (dig N).length := by omega
    have hv : val zs = ((N * 2 ^ n : Nat) : Int) := by rw [shlI_end hI, dig_val, B_pow, Nat.div_add_mod]
    have hz := pad_of hI.lim hv; rw [hI.1] at hz; subst hz; have hll : lim (N * 2 ^ n) ≤ (dig N).length + n / 32 + 1 := lim_le (by { have := val_lt hI.lim; rw [hv, hI.1] at this; exact this })
    refine nx (sl 7 rfl sn) (el 515 rfl en) ?_
    refine tri_seq ?_
    refine tri_ov 7 515 ((dig N).length + n / 32 + 1) rfl rfl ⟨(pad_length hll).symm, by omega⟩ ?_
    refine tri_reg mixed hcx ?_ _ _
    refine mv rfl ?_
    refine cas (hE := rfl) (e := 515) rfl (h := nat_trimV515 (by omega) (Nat.le_of_eq (pad_length hll).symm)) (hn := ?_)
    refine asg rfl ?_
    refine ⟨by kernel_rfl, ?_⟩
    refine nx (sl 4 rfl sn) (el 515 rfl en) ?_
    refine tri_ret ?_
    repeat (first | refine pn_thenr ?_ | refine pn_blkr ?_)
    exact ret1 hcx rfl (rv_tmp rfl) (.of (by rw [tl_pad hll])) (el 515 rfl en)

theorem nat_shr {N n k : Nat} (hk : k ≤ 8796093022208) (hn : n ≤ 8796093022208) : Fn Tryz.prog 107 [T.L N k, T.c (.int .i64 (n : Int))] [] [] [] (T.l cU (dig (N / 2 ^ n))) := by
  refine fn_of Tryz.func107 rfl (by show 2 ≤ 66; decide) fun cx hcx => ?_
  refine tri_sub (sl 0 rfl (sl 1 rfl sn)) en ?_
  refine tri_ex 0 rfl fun xs ⟨hl0, hv0, hb0⟩ => ?_
  have hM := lim_val hl0 hv0 hb0; unfold lim at hM
  have hr : n % 32 < 32 := by omega
  refine tri_seq ?_
  refine tri_reg mixed hcx ?_ _ _
  refine asg rfl ?_
  refine ⟨by kernel_rfl, ?_⟩
  refine nx (sl 0 rfl (sl 1 rfl sn)) en ?_
  refine tri_seq ?_
  refine tri_reg mixed hcx ?_ _ _
  refine mv rfl ?_
  refine ca rfl (h := nat_trim (by omega)) (hn := ?_)
  refine asg rfl ?_
  refine ⟨by kernel_rfl, ?_⟩
  refine nx (sl 0 rfl (sl 1 rfl sn)) en ?_
  refine tri_seq ?_
  refine tri_reg mixed hcx ?_ _ _
  refine mv rfl ?_
  refine qo (((n / 32 : Nat) : Int)) rfl rfl rfl (by omega) ?_
  refine mv rfl ?_
  refine re (((n % 32 : Nat) : Int)) rfl rfl (by omega) ?_
  refine cvt _ rfl cvIU rfl ⟨rfl, by omega, by omega⟩ ?_
  refine asg rfl ?_
  refine asg rfl ?_
  refine ⟨by kernel_rfl, ?_⟩
  refine nx (sl 0 rfl (sl 5 rfl (sl 6 rfl sn))) en ?_
  refine tri_seq ?_
  refine tri_seq ?_
  refine tri_reg mixed hcx ?_ _ _
  refine mv rfl ?_
  refine mv rfl ?_
  refine ln slLs rfl ?_
  refine cge rfl rfl rfl ?_
  refine ⟨by kernel_rfl, ?_⟩
  refine nx (sl 0 rfl (sl 5 rfl (sl 6 rfl (sl 20 rfl sn)))) en ?_
  refine tri_if rfl (fun hq => ?_) (fun hq => ?_)
  · refine tri_seq ?_
    refine tri_reg mixed hcx ?_ _ _
    refine asg rfl ?_
    refine ⟨by kernel_rfl, ?_⟩
    refine nx (sl 4 rfl sn) en ?_
    refine tri_ret ?_
    repeat (first | refine pn_thenr ?_ | refine pn_blkr ?_)
    exact ret1 hcx rfl (rv_tmp rfl) (nil_dig (by rw [← Nat.div_add_mod n 32]; exact shr_zero (by unfold lim; omega))) en
  · refine tri_skip ?_
    refine nx (sl 0 rfl (sl 5 rfl (sl 6 rfl sn))) en ?_
    refine tri_seq ?_
    refine tri_reg mixed hcx ?_ _ _
    refine mv rfl ?_
    refine ln slLs rfl ?_
    refine mv rfl ?_
    refine sb ((((dig N).length - n / 32 : Nat) : Int)) rfl rfl rfl (by omega) ?_
    refine mkz (c := cU) (n := (dig N).length - n / 32) 514 slLs rfl (by omega) (fun u => ⟨zvU32, zrU u⟩) (by decide) ?_
    refine asg rfl ?_
    refine ⟨by kernel_rfl, ?_⟩
    refine nx (sl 0 rfl (sl 5 rfl (sl 6 rfl (sl 7 rfl sn)))) (el 514 rfl en) ?_
    refine tri_seq ?_
    refine tri_seq ?_
    refine tri_reg mixed hcx ?_ _ _
    refine mv rfl ?_
    refine lno slLs rfl rfl ?_
    refine mv rfl ?_
    refine ⟨by kernel_rfl, ?_⟩
    refine nx (sl 0 rfl (sl 5 rfl (sl 6 rfl (sl 7 rfl (sl 27 rfl (sl 28 rfl sn)))))) (el 514 rfl en) ?_
    refine tri_block ?_
    refine tri_loop (ι := Nat × List Int) (fun (k, zs) => [(0, T.l cU (dig N)), (5, T.c (.int .i64 ((n / 32 : Nat) : Int))), (6, T.c (.int .u64 ((n % 32 : Nat) : Int))), (7, T.o 514), (27, T.c (.int .i64 (((dig N).length - n / 32 : Nat) : Int))), (28, T.c (.int .i64 (k : Int)))]) (fun (k, zs) => [(514, some (Ent.row cU 78 (zs)))]) (fun (k, zs) => (dig N).length - n / 32 - k) (fun (k, zs) => (k ≤ (dig N).length - n / 32) ∧ (shrI (dig N) zs ((dig N).length - n / 32) (n / 32) (n % 32) k)) (0, List.replicate ((dig N).length - n / 32) 0) ⟨Nat.zero_le _, shrI_start _ _ _ _⟩ (sl 0 rfl (sl 5 rfl (sl 6 rfl (sl 7 rfl (sw 27 rfl (ci (by rw [List.length_replicate])) (sl 28 rfl sn)))))) (el 514 rfl en) ?_
    rintro ⟨k, zs⟩ ⟨hk, hI⟩
    refine tri_sub (sl 0 rfl (sl 5 rfl (sl 6 rfl (sl 7 rfl (sl 27 rfl (sl 28 rfl sn)))))) (el 514 rfl en) ?_
    refine tri_seq ?_
    refine tri_reg mixed hcx ?_ _ _
    refine clt rfl rfl rfl ?_
    refine ⟨by kernel_rfl, ?_⟩
    refine nx (sl 0 rfl (sl 5 rfl (sl 6 rfl (sl 7 rfl (sl 27 rfl (sl 28 rfl (sl 29 rfl sn))))))) (el 514 rfl en) ?_
    refine tri_seq ?_
    refine tri_if rfl (fun hc => ?_) (fun hc => ?_)
    · have hlz := hI.1; have bx := gd (dig_lim N) (k + n / 32); have bY := gd (dig_lim N) (k + n / 32 + 1); have hpp := pow2_pos (n % 32)
      refine tri_skip ?_
      refine nx (sl 0 rfl (sl 5 rfl (sl 6 rfl (sl 7 rfl (sl 27 rfl (sl 28 rfl sn)))))) (el 514 rfl en) ?_
      refine tri_seq ?_
      refine tri_block ?_
      refine tri_seq ?_
      refine tri_reg mixed hcx ?_ _ _
      refine mv rfl ?_
      refine asg rfl ?_
      refine ⟨by kernel_rfl, ?_⟩
      refine nx (sl 0 rfl (sl 5 rfl (sl 6 rfl (sl 7 rfl (sl 8 rfl (sl 27 rfl (sl 28 rfl sn))))))) (el 514 rfl en) ?_
      refine tri_seq ?_
      refine tri_reg mixed hcx ?_ _ _
      refine mv rfl ?_
      refine mv rfl ?_
      refine mv rfl ?_
      refine ad (((k + n / 32 : Nat) : Int)) rfl rfl rfl (by omega) ?_
      refine ix rfl rfl slLs ⟨rfl, by omega⟩ ?_
      refine lf rfl tyU32 ?_
      refine cvt _ rfl cvU32U64 rfl ⟨rfl, by omega, by omega⟩ ?_
      refine asg rfl ?_
      refine ⟨by kernel_rfl, ?_⟩
      refine nx (sl 0 rfl (sl 5 rfl (sl 6 rfl (sl 7 rfl (sl 8 rfl (sl 9 rfl (sl 27 rfl (sl 28 rfl sn)))))))) (el 514 rfl en) ?_
      refine tri_join (ι := Unit) (fun _ => [(0, T.l cU (dig N)), (5, T.c (.int .i64 ((n / 32 : Nat) : Int))), (6, T.c (.int .u64 ((n % 32 : Nat) : Int))), (7, T.o 514), (8, T.c (.int .i64 (k : Int))), (9, T.c (.int .u64 ((dig N).getD (k + n / 32) cU.dflt + (dig N).getD (k + n / 32 + 1) cU.dflt * 4294967296))), (27, T.c (.int .i64 (((dig N).length - n / 32 : Nat) : Int))), (28, T.c (.int .i64 (k : Int)))]) (fun _ => [(514, some (Ent.row cU 78 (zs)))]) (fun _ => True) ?_ ?_
      · refine tri_seq ?_
        refine tri_reg mixed hcx ?_ _ _
        refine mv rfl ?_
        refine mv rfl ?_
        refine ad (((k + n / 32 : Nat) : Int)) rfl rfl rfl (by omega) ?_
        refine ad (((k + n / 32 + 1 : Nat) : Int)) rfl rfl rfl (by omega) ?_
        refine mv rfl ?_
        refine ln slLs rfl ?_
        refine clt rfl rfl rfl ?_
        refine ⟨by kernel_rfl, ?_⟩
        refine nx (sl 0 rfl (sl 5 rfl (sl 6 rfl (sl 7 rfl (sl 8 rfl (sl 9 rfl (sl 27 rfl (sl 28 rfl (sl 44 rfl sn))))))))) (el 514 rfl en) ?_
        refine tri_if rfl (fun hd => ?_) (fun hd => ?_)
        · refine tri_reg mixed hcx ?_ _ _
          refine mv rfl ?_
          refine mv rfl ?_
          refine mv rfl ?_
          refine mv rfl ?_
          refine ad (((k + n / 32 : Nat) : Int)) rfl rfl rfl (by omega) ?_
          refine ad (((k + n / 32 + 1 : Nat) : Int)) rfl rfl rfl (by omega) ?_
          refine ix rfl rfl slLs ⟨rfl, by omega⟩ ?_
          refine lf rfl tyU32 ?_
          refine cvt _ rfl cvU32U64 rfl ⟨rfl, by omega, by omega⟩ ?_
          refine shL (s := 32) ((dig N).getD (k + n / 32 + 1) cU.dflt * 4294967296) rfl rfl rfl rfl ⟨by omega, by omega, by omega, by decide⟩ ?_
          refine orr (((dig N).getD (k + n / 32) cU.dflt + (dig N).getD (k + n / 32 + 1) cU.dflt * 4294967296)) rfl rfl (by rw [or_u64_swap bx.1 (by omega) (by omega) (by omega), or_u64 32 (by omega) (by omega) (by omega) bx.1 (by omega) (by omega), Int.add_comm]) ?_
          refine asg rfl ?_
          refine ⟨by kernel_rfl, ?_⟩
          first | exact pn_join () trivial (sl 0 rfl (sl 5 rfl (sl 6 rfl (sl 7 rfl (sl 8 rfl (sl 9 rfl (sl 27 rfl (sl 28 rfl sn)))))))) (el 514 rfl en) | exact pn_join () trivial (sl 0 rfl (sl 5 rfl (sl 6 rfl (sl 7 rfl (sl 8 rfl (sw 9 rfl (ci (by rw [show (dig N).getD (k + n / 32 + 1) cU.dflt = 0 from at_ge (by omega)]; omega)) (sl 27 rfl (sl 28 rfl sn)))))))) (el 514 rfl en)
        · refine tri_skip ?_
          first | exact pn_join () trivial (sl 0 rfl (sl 5 rfl (sl 6 rfl (sl 7 rfl (sl 8 rfl (sl 9 rfl (sl 27 rfl (sl 28 rfl sn)))))))) (el 514 rfl en) | exact pn_join () trivial (sl 0 rfl (sl 5 rfl (sl 6 rfl (sl 7 rfl (sl 8 rfl (sw 9 rfl (ci (by rw [show (dig N).getD (k + n / 32 + 1) cU.dflt = 0 from at_ge (by omega)]; omega)) (sl 27 rfl (sl 28 rfl sn)))))))) (el 514 rfl en)
      · rintro _ _
        refine tri_sub (sl 0 rfl (sl 5 rfl (sl 6 rfl (sl 7 rfl (sl 8 rfl (sl 9 rfl (sl 27 rfl (sl 28 rfl sn)))))))) (el 514 rfl en) ?_
        refine tri_reg mixed hcx ?_ _ _
        refine mv rfl ?_
        refine mv rfl ?_
        refine mv rfl ?_
        refine mv rfl ?_
        refine shR (s := n % 32) (((dig N).getD (k + n / 32) cU.dflt + (dig N).getD (k + n / 32 + 1) cU.dflt * 4294967296) / 2 ^ (n % 32)) rfl rfl rfl ⟨rfl, by omega, (by show n % 32 ≤ 64; omega)⟩ ?_
        refine cvm _ rfl cvU64U32 rfl ?_
        refine ixo rfl rfl rfl slLs ⟨rfl, by omega⟩ ?_
        refine so rfl rfl rfl (.refl _) tyU32 ⟨rfl, by omega⟩ ?_
        refine ⟨by kernel_rfl, ?_⟩
        refine pn_blk ?_
        refine nx (sl 0 rfl (sl 5 rfl (sl 6 rfl (sl 7 rfl (sl 27 rfl (sl 28 rfl sn)))))) (el 514 rfl en) ?_
        refine tri_reg mixed hcx ?_ _ _
        refine ad (((k + 1 : Nat) : Int)) rfl rfl rfl (by omega) ?_
        refine mv rfl ?_
        refine ⟨by kernel_rfl, ?_⟩
        exact pn_back (k + 1, zs.set k (((dig N).getD (k + n / 32) cU.dflt + (dig N).getD (k + n / 32 + 1) cU.dflt * 4294967296) / 2 ^ (n % 32) % 4294967296)) (by first | omega | (dsimp only; omega)) ⟨by omega, shrI_step hI hr (by omega) (by omega) (dig_lim N)⟩ (sl 0 rfl (sl 5 rfl (sl 6 rfl (sl 7 rfl (sl 27 rfl (sl 28 rfl sn)))))) (el 514 rfl en)
    · refine tri_exit ?_
      repeat (first | refine pn_then ?_ | refine pn_oth (by decide) ?_)
      refine pn_ex ?_
      obtain rfl : k = (dig N).length - n / 32 := by omega
      have hE1 : val zs = ((N / 2 ^ n : Nat) : Int) := by rw [shrI_end hI (by omega) (dig_lim N), dig_val, Nat.div_add_mod]; simp
      have hE2 := hI.lim; have hE3 : zs.length ≤ (dig N).length - n / 32 := Nat.le_of_eq hI.1
      refine nx (sl 7 rfl sn) (el 514 rfl en) ?_
      refine tri_seq ?_
      refine tri_fz 514 rfl ?_
      refine tri_rd 7 514 rfl rfl ?_
      refine tri_reg mixed hcx ?_ _ _
      refine mv rfl ?_
      refine ca rfl (h := nat_trim (by omega)) (hn := ?_)
      refine asg rfl ?_
      refine ⟨by kernel_rfl, ?_⟩
      refine nx (sl 4 rfl sn) (el 514 rfl en) ?_
      refine tri_ret ?_
      repeat (first | refine pn_thenr ?_ | refine pn_blkr ?_)
      exact ret1 hcx rfl (rv_tmp rfl) (.refl _) en

theorem min_mnI (x y : Int) : min x y = mnI x y := by unfold mnI; split <;> omega
theorem part_getD {pre us post : List Int} {i : Nat} {d : Int} (h : i < us.length) : (pre ++ us ++ post).getD (pre.length + i) d = us.getD i d := by
  rw [List.getD_eq_getElem?_getD, List.append_assoc, List.getElem?_append_right (by omega), Nat.add_sub_cancel_left, List.getElem?_append_left h, List.getD_eq_getElem?_getD]
theorem part_set {pre us post : List Int} {i : Nat} {x : Int} (h : i < us.length) : (pre ++ us ++ post).set (pre.length + i) x = pre ++ us.set i x ++ post := by
  rw [List.append_assoc, List.set_append_right _ _ (by omega), Nat.add_sub_cancel_left, List.set_append_left _ _ h, List.append_assoc]
theorem part_len (pre us post : List Int) : (pre ++ us ++ post).length = pre.length + us.length + post.length := by simp [Nat.add_assoc]

theorem nat_digit {pre us post vs : List Int} {U V m : Nat} (hus : Lim us) (hul : us.length = m + 2) (hvU : val us = U) (hlv : Lim vs) (hvl : vs.length = m + 1) (hvV : val vs = V) (htop : 0 < at_ vs m) (hV : 0 < V) (hlt : U < 4294967296 * V) (hm : pre.length + m ≤ 4611686018427387904) : Fn Tryz.prog 106 [T.v 1114 pre.length (m + 2), T.l cU vs] [(1114, Ent.row cU 78 (pre ++ us ++ post))] [(1114, Ent.row cU 78 (pre ++ pad (U % V) (m + 2) ++ post))] [] (T.c (.int .u32 ((U / V : Nat) : Int))) := by
  refine fn_of Tryz.func106 rfl (by show 2 ≤ 117; decide) fun cx hcx => ?_
  refine tri_sub (sl 0 rfl (sl 1 rfl sn)) (el 1114 rfl en) ?_
  have bu1 := gd hus (m + 1); have bu0 := gd hus m; have bv := gd hlv m; have hRl := part_len pre us post; rw [← getD_at] at htop
  refine tri_seq ?_
  refine tri_reg mixed hcx ?_ _ _
  refine asg rfl ?_
  refine ⟨by kernel_rfl, ?_⟩
  refine nx (sl 0 rfl (sl 1 rfl sn)) (el 1114 rfl en) ?_
  refine tri_seq ?_
  refine tri_reg mixed hcx ?_ _ _
  refine mv rfl ?_
  refine ln slLs rfl ?_
  refine asg rfl ?_
  refine ⟨by kernel_rfl, ?_⟩
  refine nx (sl 0 rfl (sl 1 rfl (sl 5 rfl sn))) (el 1114 rfl en) ?_
  refine tri_seq ?_
  refine tri_reg mixed hcx ?_ _ _
  refine mv rfl ?_
  refine mv rfl ?_
  refine ixv rfl rfl slLs ⟨rfl, by omega⟩ ?_
  refine lo (pre.length + (m + 1)) rfl rfl tyU32 ⟨(Nat.mul_one _).symm, by omega, by omega⟩ ?_
  refine cvt (us.getD (m + 1) cU.dflt) rfl cvU32U64 rfl ⟨part_getD (by omega), by omega, by omega⟩ ?_
  refine shL (s := 32) (us.getD (m + 1) cU.dflt * 4294967296) rfl rfl rfl rfl ⟨by omega, by omega, by omega, by decide⟩ ?_
  refine mv rfl ?_
  refine mv rfl ?_
  refine sb ((m : Int)) rfl rfl rfl (by omega) ?_
  refine ixv rfl rfl slLs ⟨rfl, by omega⟩ ?_
  refine lo (pre.length + m) rfl rfl tyU32 ⟨(Nat.mul_one _).symm, by omega, by omega⟩ ?_
  refine cvt (us.getD m cU.dflt) rfl cvU32U64 rfl ⟨part_getD (by omega), by omega, by omega⟩ ?_
  refine orr ((us.getD (m + 1) cU.dflt * 4294967296 + us.getD m cU.dflt)) rfl rfl (or_u64 32 (by omega) (by omega) (by omega) bu0.1 (by omega) (by omega)) ?_
  refine asg rfl ?_
  refine ⟨by kernel_rfl, ?_⟩
  refine nx (sl 0 rfl (sl 1 rfl (sl 5 rfl (sl 6 rfl sn)))) (el 1114 rfl en) ?_
  refine tri_seq ?_
  refine tri_reg mixed hcx ?_ _ _
  refine mv rfl ?_
  refine mv rfl ?_
  refine mv rfl ?_
  refine sb ((m : Int)) rfl rfl rfl (by omega) ?_
  refine ix rfl rfl slLs ⟨rfl, by omega⟩ ?_
  refine lf rfl tyU32 ?_
  refine cvt _ rfl cvU32U64 rfl ⟨rfl, by omega, by omega⟩ ?_
  refine qo _ rfl rfl rfl ⟨rfl, by omega, by omega, by omega⟩ ?_
  refine mnb (mnI ((us.getD (m + 1) cU.dflt * 4294967296 + us.getD m cU.dflt) / vs.getD m cU.dflt) 4294967295) rfl rfl (min_mnI _ _) ?_
  refine asg rfl ?_
  refine ⟨by kernel_rfl, ?_⟩
  refine nx (sl 0 rfl (sl 1 rfl (sl 5 rfl (sl 7 rfl sn)))) (el 1114 rfl en) ?_
  refine tri_seq ?_
  obtain ⟨q, hq⟩ : ∃ q, q = mnI ((us.getD (m + 1) cU.dflt * 4294967296 + us.getD m cU.dflt) / vs.getD m cU.dflt) 4294967295 := ⟨_, rfl⟩
  rw [← hq]
  have hg := guess_ok hus hlv hul hvl (by omega) htop q hq; have hq0 : 0 ≤ q ∧ q < 4294967296 := ⟨hg.1, hg.2.1⟩
  refine tri_reg mixed hcx ?_ _ _
  refine asg rfl ?_
  refine asg rfl ?_
  refine ⟨by kernel_rfl, ?_⟩
  refine nx (sl 0 rfl (sl 1 rfl (sl 5 rfl (sl 7 rfl (sl 8 rfl (sl 9 rfl sn)))))) (el 1114 rfl en) ?_
  refine tri_seq ?_
  refine tri_seq ?_
  refine tri_reg mixed hcx ?_ _ _
  refine mv rfl ?_
  refine ad (((m + 2 : Nat) : Int)) rfl rfl rfl (by omega) ?_
  refine mv rfl ?_
  refine ⟨by kernel_rfl, ?_⟩
  refine nx (sl 0 rfl (sl 1 rfl (sl 5 rfl (sl 7 rfl (sl 8 rfl (sl 9 rfl (sl 40 rfl (sl 41 rfl sn)))))))) (el 1114 rfl en) ?_
  refine tri_block ?_
  refine tri_loop (ι := Nat × Int × Int × List Int) (fun (i, cy, bw, ws) => [(0, T.v 1114 pre.length (m + 2)), (1, T.l cU vs), (5, T.c (.int .i64 (vs.length : Int))), (7, T.c (.int .u64 q)), (8, T.c (.int .u64 cy)), (9, T.c (.int .u64 bw)), (40, T.c (.int .i64 ((m + 2 : Nat) : Int))), (41, T.c (.int .i64 (i : Int)))]) (fun (i, cy, bw, ws) => [(1114, some (Ent.row cU 78 (pre ++ ws ++ post)))]) (fun (i, cy, bw, ws) => m + 2 - i) (fun (i, cy, bw, ws) => (i ≤ m + 2) ∧ (subI us vs ws q (m + 2) i cy bw) ∧ (m + 2 ≤ i → cy = 0)) (0, 0, 0, us) ⟨Nat.zero_le _, subI_start hul hus, fun h => rfl⟩ (sl 0 rfl (sl 1 rfl (sl 5 rfl (sl 7 rfl (sl 8 rfl (sl 9 rfl (sl 40 rfl (sl 41 rfl sn)))))))) (el 1114 rfl en) ?_
  rintro ⟨i, cy, bw, ws⟩ ⟨hi, hI, hz⟩
  refine tri_sub (sl 0 rfl (sl 1 rfl (sl 5 rfl (sl 7 rfl (sl 8 rfl (sl 9 rfl (sl 40 rfl (sl 41 rfl sn)))))))) (el 1114 rfl en) ?_
  refine tri_seq ?_
  refine tri_reg mixed hcx ?_ _ _
  refine clt rfl rfl rfl ?_
  refine ⟨by kernel_rfl, ?_⟩
  refine nx (sl 0 rfl (sl 1 rfl (sl 5 rfl (sl 7 rfl (sl 8 rfl (sl 9 rfl (sl 40 rfl (sl 41 rfl (sl 42 rfl sn))))))))) (el 1114 rfl en) ?_
  refine tri_seq ?_
  refine tri_if rfl (fun hc => ?_) (fun hc => ?_)
  · have hbb := hI.bw; have hbc := hI.cy; have hlz := hI.len; have hRw := part_len pre ws post; have bx := gd hus i; have bY := gd hlv i; have hmb := mul_bound hq0.1 hq0.2 bY.1 bY.2 hbc.1 hbc.2 (Int.le_refl 0) (show (0 : Int) < 4294967296 by decide)
    refine tri_skip ?_
    refine nx (sl 0 rfl (sl 1 rfl (sl 5 rfl (sl 7 rfl (sl 8 rfl (sl 9 rfl (sl 40 rfl (sl 41 rfl sn)))))))) (el 1114 rfl en) ?_
    refine tri_seq ?_
    refine tri_block ?_
    refine tri_seq ?_
    refine tri_reg mixed hcx ?_ _ _
    refine mv rfl ?_
    refine asg rfl ?_
    refine ⟨by kernel_rfl, ?_⟩
    refine nx (sl 0 rfl (sl 1 rfl (sl 5 rfl (sl 7 rfl (sl 8 rfl (sl 9 rfl (sl 10 rfl (sl 40 rfl (sl 41 rfl sn))))))))) (el 1114 rfl en) ?_
    refine tri_seq ?_
    refine tri_reg mixed hcx ?_ _ _
    refine mv rfl ?_
    refine asg rfl ?_
    refine ⟨by kernel_rfl, ?_⟩
    refine nx (sl 0 rfl (sl 1 rfl (sl 5 rfl (sl 7 rfl (sl 9 rfl (sl 10 rfl (sl 11 rfl (sl 40 rfl (sl 41 rfl sn))))))))) (el 1114 rfl en) ?_
    refine tri_join (ι := Int × Int) (fun (p, y) => [(0, T.v 1114 pre.length (m + 2)), (1, T.l cU vs), (5, T.c (.int .i64 (vs.length : Int))), (7, T.c (.int .u64 q)), (9, T.c (.int .u64 bw)), (10, T.c (.int .i64 (i : Int))), (11, T.c (.int .u64 p)), (40, T.c (.int .i64 ((m + 2 : Nat) : Int))), (41, T.c (.int .i64 (i : Int)))]) (fun (p, y) => [(1114, some (Ent.row cU 78 (pre ++ ws ++ post)))]) (fun (p, y) => (p = cy + q * y) ∧ (0 ≤ y ∧ y < 4294967296) ∧ (val (vs.take (i + 1)) = val (vs.take i) + B i * y) ∧ (vs.length ≤ i → y = 0)) ?_ ?_
    · refine tri_seq ?_
      refine tri_reg mixed hcx ?_ _ _
      refine mv rfl ?_
      refine mv rfl ?_
      refine clt rfl rfl rfl ?_
      refine ⟨by kernel_rfl, ?_⟩
      refine nx (sl 0 rfl (sl 1 rfl (sl 5 rfl (sl 7 rfl (sl 9 rfl (sl 10 rfl (sl 11 rfl (sl 40 rfl (sl 41 rfl (sl 47 rfl sn)))))))))) (el 1114 rfl en) ?_
      refine tri_if rfl (fun hd => ?_) (fun hd => ?_)
      · refine tri_reg mixed hcx ?_ _ _
        refine mv rfl ?_
        refine mv rfl ?_
        refine mv rfl ?_
        refine mv rfl ?_
        refine ix rfl rfl slLs ⟨rfl, by omega⟩ ?_
        refine lf rfl tyU32 ?_
        refine cvt _ rfl cvU32U64 rfl ⟨rfl, by omega, by omega⟩ ?_
        refine ml _ rfl rfl rfl ⟨rfl, by omega, by omega⟩ ?_
        refine ad _ rfl rfl rfl ⟨rfl, by omega, by omega⟩ ?_
        refine asg rfl ?_
        refine ⟨by kernel_rfl, ?_⟩
        first | exact pn_join (cy + q * vs.getD i cU.dflt, vs.getD i cU.dflt) ⟨rfl, bY, val_take_succ (by omega), fun h => by omega⟩ (sl 0 rfl (sl 1 rfl (sl 5 rfl (sl 7 rfl (sl 9 rfl (sl 10 rfl (sl 11 rfl (sl 40 rfl (sl 41 rfl sn))))))))) (el 1114 rfl en) | exact pn_join (cy, 0) ⟨by show cy = cy + q * 0; omega, by omega, by rw [List.take_of_length_le (by omega), List.take_of_length_le (by omega)]; omega, fun h => rfl⟩ (sl 0 rfl (sl 1 rfl (sl 5 rfl (sl 7 rfl (sl 9 rfl (sl 10 rfl (sl 11 rfl (sl 40 rfl (sl 41 rfl sn))))))))) (el 1114 rfl en)
      · refine tri_skip ?_
        first | exact pn_join (cy + q * vs.getD i cU.dflt, vs.getD i cU.dflt) ⟨rfl, bY, val_take_succ (by omega), fun h => by omega⟩ (sl 0 rfl (sl 1 rfl (sl 5 rfl (sl 7 rfl (sl 9 rfl (sl 10 rfl (sl 11 rfl (sl 40 rfl (sl 41 rfl sn))))))))) (el 1114 rfl en) | exact pn_join (cy, 0) ⟨by show cy = cy + q * 0; omega, by omega, by rw [List.take_of_length_le (by omega), List.take_of_length_le (by omega)]; omega, fun h => rfl⟩ (sl 0 rfl (sl 1 rfl (sl 5 rfl (sl 7 rfl (sl 9 rfl (sl 10 rfl (sl 11 rfl (sl 40 rfl (sl 41 rfl sn))))))))) (el 1114 rfl en)
    · rintro ⟨p, y⟩ ⟨hp, hy0, hyy, hy2⟩
      refine tri_sub (sl 0 rfl (sl 1 rfl (sl 5 rfl (sl 7 rfl (sl 9 rfl (sl 10 rfl (sl 11 rfl (sl 40 rfl (sl 41 rfl sn))))))))) (el 1114 rfl en) ?_
      have hmp := mul_bound hq0.1 hq0.2 hy0.1 hy0.2 hbc.1 hbc.2 (Int.le_refl 0) (show (0 : Int) < 4294967296 by decide)
      refine tri_seq ?_
      refine tri_reg mixed hcx ?_ _ _
      refine mv rfl ?_
      refine shR (s := 32) (p / 4294967296) rfl rfl rfl ⟨by omega, by omega, by decide⟩ ?_
      refine asg rfl ?_
      refine ⟨by kernel_rfl, ?_⟩
      refine nx (sl 0 rfl (sl 1 rfl (sl 5 rfl (sl 7 rfl (sl 8 rfl (sl 9 rfl (sl 10 rfl (sl 11 rfl (sl 40 rfl (sl 41 rfl sn)))))))))) (el 1114 rfl en) ?_
      refine tri_seq ?_
      refine tri_reg mixed hcx ?_ _ _
      refine mv rfl ?_
      refine mv rfl ?_
      refine ixv rfl rfl slLs ⟨rfl, by omega⟩ ?_
      refine lo (pre.length + i) rfl rfl tyU32 ⟨(Nat.mul_one _).symm, by omega, by omega⟩ ?_
      refine cvt (us.getD i cU.dflt) rfl cvU32U64 rfl ⟨(part_getD (by omega)).trans hI.at_, by omega, by omega⟩ ?_
      refine mv rfl ?_
      refine cvm _ rfl cvU64U32 rfl ?_
      refine cvt _ rfl cvU32U64 rfl ⟨rfl, by omega, by omega⟩ ?_
      refine sbm _ rfl rfl ⟨rfl, rfl⟩ rfl ?_
      refine mv rfl ?_
      refine sbm _ rfl rfl ⟨rfl, rfl⟩ rfl ?_
      refine asg rfl ?_
      refine ⟨by kernel_rfl, ?_⟩
      refine nx (sl 0 rfl (sl 1 rfl (sl 5 rfl (sl 7 rfl (sl 8 rfl (sl 10 rfl (sl 12 rfl (sl 40 rfl (sl 41 rfl sn))))))))) (el 1114 rfl en) ?_
      refine tri_seq ?_
      refine tri_reg mixed hcx ?_ _ _
      refine mv rfl ?_
      refine mv rfl ?_
      refine mv rfl ?_
      refine cvm _ rfl cvU64U32 rfl ?_
      refine ixv rfl rfl slLs ⟨rfl, by omega⟩ ?_
      refine so rfl rfl rfl (.refl _) tyU32 (i := pre.length + i) ⟨(Nat.mul_one _).symm, by omega⟩ ?_
      refine ⟨by kernel_rfl, ?_⟩
      refine nx (sl 0 rfl (sl 1 rfl (sl 5 rfl (sl 7 rfl (sl 8 rfl (sl 12 rfl (sl 40 rfl (sl 41 rfl sn)))))))) (el 1114 rfl en) ?_
      refine tri_reg mixed hcx ?_ _ _
      refine mv rfl ?_
      refine shR (s := 63) (((us.getD i cU.dflt - p % 4294967296) % 18446744073709551616 - bw) % 18446744073709551616 / 9223372036854775808) rfl rfl rfl ⟨by omega, by omega, by decide⟩ ?_
      refine asg rfl ?_
      refine ⟨by kernel_rfl, ?_⟩
      refine pn_blk ?_
      refine nx (sl 0 rfl (sl 1 rfl (sl 5 rfl (sl 7 rfl (sl 8 rfl (sl 9 rfl (sl 40 rfl (sl 41 rfl sn)))))))) (el 1114 rfl en) ?_
      refine tri_reg mixed hcx ?_ _ _
      refine ad (((i + 1 : Nat) : Int)) rfl rfl rfl (by omega) ?_
      refine mv rfl ?_
      refine ⟨by kernel_rfl, ?_⟩
      exact pn_back (i + 1, p / 4294967296, ((us.getD i cU.dflt - p % 4294967296) % 18446744073709551616 - bw) % 18446744073709551616 / 9223372036854775808, ws.set i (((us.getD i cU.dflt - p % 4294967296) % 18446744073709551616 - bw) % 18446744073709551616 % 4294967296)) (by first | omega | (dsimp only; omega)) ⟨by omega, subI_step hI (by omega) hul hq0.1 hq0.2 hy0.1 hy0.2 hyy _ hp _ (by rw [← getD_at]; omega), fun h => by have := hy2 (by omega); subst this; rw [Int.mul_zero] at hp; omega⟩ (sl 0 rfl (sl 1 rfl (sl 5 rfl (sl 7 rfl (sl 8 rfl (sl 9 rfl (sl 40 rfl (sl 41 rfl sn)))))))) (ew 1114 rfl (.of (by rw [part_set (by omega)])) en)
  · refine tri_exit ?_
    repeat (first | refine pn_then ?_ | refine pn_oth (by decide) ?_)
    refine pn_ex ?_
    obtain rfl : i = m + 2 := by omega
    have hD : digI ws (U : Int) (V : Int) (m + 2) q bw := ⟨hI.len, hI.lim, hI.bw, hq0, by rw [← hvU, ← hvV]; exact hg.2.2, by rw [← hvU, ← hvV]; exact subI_end hI hul (by omega) (hz (Nat.le_refl _))⟩
    clear hI hz hi hg hq hq0
    refine nx (sl 0 rfl (sl 1 rfl (sl 5 rfl (sl 7 rfl (sl 9 rfl sn))))) (el 1114 rfl en) ?_
    refine tri_seq ?_
    refine tri_block ?_
    refine tri_loop (ι := Int × Int × List Int) (fun (q, bw, us) => [(0, T.v 1114 pre.length (m + 2)), (1, T.l cU vs), (5, T.c (.int .i64 (vs.length : Int))), (7, T.c (.int .u64 q)), (9, T.c (.int .u64 bw))]) (fun (q, bw, us) => [(1114, some (Ent.row cU 78 (pre ++ us ++ post)))]) (fun (q, bw, us) => q.toNat) (fun (q, bw, us) => (digI us (U : Int) (V : Int) (m + 2) q bw)) (q, bw, ws) hD (sl 0 rfl (sl 1 rfl (sl 5 rfl (sl 7 rfl (sl 9 rfl sn))))) (el 1114 rfl en) ?_
    rintro ⟨q, bw, us⟩ hD
    refine tri_sub (sl 0 rfl (sl 1 rfl (sl 5 rfl (sl 7 rfl (sl 9 rfl sn))))) (el 1114 rfl en) ?_
    refine tri_seq ?_
    refine tri_seq ?_
    refine tri_reg mixed hcx ?_ _ _
    refine mv rfl ?_
    refine cgt rfl rfl rfl ?_
    refine ⟨by kernel_rfl, ?_⟩
    refine nx (sl 0 rfl (sl 1 rfl (sl 5 rfl (sl 7 rfl (sl 9 rfl (sl 79 rfl sn)))))) (el 1114 rfl en) ?_
    refine tri_if rfl (fun hb => ?_) (fun hb => ?_)
    · obtain rfl : bw = 1 := by have := hD.bw; omega
      have hp1 := digI_pos hD (by omega); have hq1 := hD.q
      refine tri_skip ?_
      refine nx (sl 0 rfl (sl 1 rfl (sl 5 rfl (sl 7 rfl (sl 9 rfl sn))))) (el 1114 rfl en) ?_
      refine tri_block ?_
      refine tri_seq ?_
      refine tri_reg mixed hcx ?_ _ _
      refine mv rfl ?_
      refine sb _ rfl rfl rfl ⟨rfl, by omega, by omega⟩ ?_
      refine asg rfl ?_
      refine ⟨by kernel_rfl, ?_⟩
      refine nx (sl 0 rfl (sl 1 rfl (sl 5 rfl (sl 7 rfl (sl 9 rfl sn))))) (el 1114 rfl en) ?_
      refine tri_seq ?_
      refine tri_reg mixed hcx ?_ _ _
      refine asg rfl ?_
      refine ⟨by kernel_rfl, ?_⟩
      refine nx (sl 0 rfl (sl 1 rfl (sl 5 rfl (sl 7 rfl (sl 9 rfl (sl 13 rfl sn)))))) (el 1114 rfl en) ?_
      refine tri_seq ?_
      refine tri_seq ?_
      refine tri_reg mixed hcx ?_ _ _
      refine mv rfl ?_
      refine ad (((m + 2 : Nat) : Int)) rfl rfl rfl (by omega) ?_
      refine mv rfl ?_
      refine ⟨by kernel_rfl, ?_⟩
      refine nx (sl 0 rfl (sl 1 rfl (sl 5 rfl (sl 7 rfl (sl 9 rfl (sl 13 rfl (sl 83 rfl (sl 84 rfl sn)))))))) (el 1114 rfl en) ?_
      refine tri_block ?_
      refine tri_loop (ι := Nat × Int × List Int) (fun (i, c, ws) => [(0, T.v 1114 pre.length (m + 2)), (1, T.l cU vs), (5, T.c (.int .i64 (vs.length : Int))), (7, T.c (.int .u64 (q - 1))), (9, T.c (.int .u64 1)), (13, T.c (.int .u64 c)), (83, T.c (.int .i64 ((m + 2 : Nat) : Int))), (84, T.c (.int .i64 (i : Int)))]) (fun (i, c, ws) => [(1114, some (Ent.row cU 78 (pre ++ ws ++ post)))]) (fun (i, c, ws) => m + 2 - i) (fun (i, c, ws) => (i ≤ m + 2) ∧ (putI us vs ws (m + 2) i c)) (0, 0, us) ⟨Nat.zero_le _, putI_start hD.len hD.lim⟩ (sl 0 rfl (sl 1 rfl (sl 5 rfl (sl 7 rfl (sl 9 rfl (sl 13 rfl (sl 83 rfl (sl 84 rfl sn)))))))) (el 1114 rfl en) ?_
      rintro ⟨i, c, ws⟩ ⟨hi, hP⟩
      refine tri_sub (sl 0 rfl (sl 1 rfl (sl 5 rfl (sl 7 rfl (sl 9 rfl (sl 13 rfl (sl 83 rfl (sl 84 rfl sn)))))))) (el 1114 rfl en) ?_
      refine tri_seq ?_
      refine tri_reg mixed hcx ?_ _ _
      refine clt rfl rfl rfl ?_
      refine ⟨by kernel_rfl, ?_⟩
      refine nx (sl 0 rfl (sl 1 rfl (sl 5 rfl (sl 7 rfl (sl 9 rfl (sl 13 rfl (sl 83 rfl (sl 84 rfl (sl 85 rfl sn))))))))) (el 1114 rfl en) ?_
      refine tri_seq ?_
      refine tri_if rfl (fun hc => ?_) (fun hc => ?_)
      · have hpc := hP.c; have hlz := hP.len; have hRw := part_len pre ws post; have bx := gd hD.lim i; have bY := gd hlv i
        refine tri_skip ?_
        refine nx (sl 0 rfl (sl 1 rfl (sl 5 rfl (sl 7 rfl (sl 9 rfl (sl 13 rfl (sl 83 rfl (sl 84 rfl sn)))))))) (el 1114 rfl en) ?_
        refine tri_seq ?_
        refine tri_block ?_
        refine tri_seq ?_
        refine tri_reg mixed hcx ?_ _ _
        refine mv rfl ?_
        refine asg rfl ?_
        refine ⟨by kernel_rfl, ?_⟩
        refine nx (sl 0 rfl (sl 1 rfl (sl 5 rfl (sl 7 rfl (sl 9 rfl (sl 13 rfl (sl 14 rfl (sl 83 rfl (sl 84 rfl sn))))))))) (el 1114 rfl en) ?_
        refine tri_seq ?_
        refine tri_reg mixed hcx ?_ _ _
        refine mv rfl ?_
        refine mv rfl ?_
        refine mv rfl ?_
        refine ixv rfl rfl slLs ⟨rfl, by omega⟩ ?_
        refine lo (pre.length + i) rfl rfl tyU32 ⟨(Nat.mul_one _).symm, by omega, by omega⟩ ?_
        refine cvt (us.getD i cU.dflt) rfl cvU32U64 rfl ⟨(part_getD (by omega)).trans hP.at_, by omega, by omega⟩ ?_
        refine ad _ rfl rfl rfl ⟨rfl, by omega, by omega⟩ ?_
        refine asg rfl ?_
        refine ⟨by kernel_rfl, ?_⟩
        refine nx (sl 0 rfl (sl 1 rfl (sl 5 rfl (sl 7 rfl (sl 9 rfl (sl 13 rfl (sl 14 rfl (sl 83 rfl (sl 84 rfl sn))))))))) (el 1114 rfl en) ?_
        refine tri_join (ι := Int × Int) (fun (v, y) => [(0, T.v 1114 pre.length (m + 2)), (1, T.l cU vs), (5, T.c (.int .i64 (vs.length : Int))), (7, T.c (.int .u64 (q - 1))), (9, T.c (.int .u64 1)), (13, T.c (.int .u64 v)), (14, T.c (.int .i64 (i : Int))), (83, T.c (.int .i64 ((m + 2 : Nat) : Int))), (84, T.c (.int .i64 (i : Int)))]) (fun (v, y) => [(1114, some (Ent.row cU 78 (pre ++ ws ++ post)))]) (fun (v, y) => (v = c + us.getD i cU.dflt + y) ∧ (0 ≤ y ∧ y < 4294967296) ∧ (val (vs.take (i + 1)) = val (vs.take i) + B i * y)) ?_ ?_
        · refine tri_seq ?_
          refine tri_reg mixed hcx ?_ _ _
          refine mv rfl ?_
          refine mv rfl ?_
          refine clt rfl rfl rfl ?_
          refine ⟨by kernel_rfl, ?_⟩
          refine nx (sl 0 rfl (sl 1 rfl (sl 5 rfl (sl 7 rfl (sl 9 rfl (sl 13 rfl (sl 14 rfl (sl 83 rfl (sl 84 rfl (sl 96 rfl sn)))))))))) (el 1114 rfl en) ?_
          refine tri_if rfl (fun hd => ?_) (fun hd => ?_)
          · refine tri_reg mixed hcx ?_ _ _
            refine mv rfl ?_
            refine mv rfl ?_
            refine mv rfl ?_
            refine ix rfl rfl slLs ⟨rfl, by omega⟩ ?_
            refine lf rfl tyU32 ?_
            refine cvt _ rfl cvU32U64 rfl ⟨rfl, by omega, by omega⟩ ?_
            refine ad _ rfl rfl rfl ⟨rfl, by omega, by omega⟩ ?_
            refine asg rfl ?_
            refine ⟨by kernel_rfl, ?_⟩
            first | exact pn_join (c + us.getD i cU.dflt + vs.getD i cU.dflt, vs.getD i cU.dflt) ⟨rfl, bY, val_take_succ (by omega)⟩ (sl 0 rfl (sl 1 rfl (sl 5 rfl (sl 7 rfl (sl 9 rfl (sl 13 rfl (sl 14 rfl (sl 83 rfl (sl 84 rfl sn))))))))) (el 1114 rfl en) | exact pn_join (c + us.getD i cU.dflt, 0) ⟨by show c + us.getD i cU.dflt = c + us.getD i cU.dflt + 0; omega, by omega, by rw [List.take_of_length_le (by omega), List.take_of_length_le (by omega)]; omega⟩ (sl 0 rfl (sl 1 rfl (sl 5 rfl (sl 7 rfl (sl 9 rfl (sl 13 rfl (sl 14 rfl (sl 83 rfl (sl 84 rfl sn))))))))) (el 1114 rfl en)
          · refine tri_skip ?_
            first | exact pn_join (c + us.getD i cU.dflt + vs.getD i cU.dflt, vs.getD i cU.dflt) ⟨rfl, bY, val_take_succ (by omega)⟩ (sl 0 rfl (sl 1 rfl (sl 5 rfl (sl 7 rfl (sl 9 rfl (sl 13 rfl (sl 14 rfl (sl 83 rfl (sl 84 rfl sn))))))))) (el 1114 rfl en) | exact pn_join (c + us.getD i cU.dflt, 0) ⟨by show c + us.getD i cU.dflt = c + us.getD i cU.dflt + 0; omega, by omega, by rw [List.take_of_length_le (by omega), List.take_of_length_le (by omega)]; omega⟩ (sl 0 rfl (sl 1 rfl (sl 5 rfl (sl 7 rfl (sl 9 rfl (sl 13 rfl (sl 14 rfl (sl 83 rfl (sl 84 rfl sn))))))))) (el 1114 rfl en)
        · rintro ⟨v, y⟩ ⟨hv, hy0, hyy⟩
          refine tri_sub (sl 0 rfl (sl 1 rfl (sl 5 rfl (sl 7 rfl (sl 9 rfl (sl 13 rfl (sl 14 rfl (sl 83 rfl (sl 84 rfl sn))))))))) (el 1114 rfl en) ?_
          refine tri_seq ?_
          refine tri_reg mixed hcx ?_ _ _
          refine mv rfl ?_
          refine mv rfl ?_
          refine mv rfl ?_
          refine cvm _ rfl cvU64U32 rfl ?_
          refine ixv rfl rfl slLs ⟨rfl, by omega⟩ ?_
          refine so rfl rfl rfl (.refl _) tyU32 (i := pre.length + i) ⟨(Nat.mul_one _).symm, by omega⟩ ?_
          refine ⟨by kernel_rfl, ?_⟩
          refine nx (sl 0 rfl (sl 1 rfl (sl 5 rfl (sl 7 rfl (sl 9 rfl (sl 13 rfl (sl 83 rfl (sl 84 rfl sn)))))))) (el 1114 rfl en) ?_
          refine tri_reg mixed hcx ?_ _ _
          refine mv rfl ?_
          refine shR (s := 32) (v / 4294967296) rfl rfl rfl ⟨by omega, by omega, by decide⟩ ?_
          refine asg rfl ?_
          refine ⟨by kernel_rfl, ?_⟩
          refine pn_blk ?_
          refine nx (sl 0 rfl (sl 1 rfl (sl 5 rfl (sl 7 rfl (sl 9 rfl (sl 13 rfl (sl 83 rfl (sl 84 rfl sn)))))))) (el 1114 rfl en) ?_
          refine tri_reg mixed hcx ?_ _ _
          refine ad (((i + 1 : Nat) : Int)) rfl rfl rfl (by omega) ?_
          refine mv rfl ?_
          refine ⟨by kernel_rfl, ?_⟩
          exact pn_back (i + 1, v / 4294967296, ws.set i (v % 4294967296)) (by first | omega | (dsimp only; omega)) ⟨by omega, putI_step hP (by omega) hD.len hy0.1 hy0.2 hyy _ hv⟩ (sl 0 rfl (sl 1 rfl (sl 5 rfl (sl 7 rfl (sl 9 rfl (sl 13 rfl (sl 83 rfl (sl 84 rfl sn)))))))) (ew 1114 rfl (.of (by rw [part_set (by omega)])) en)
      · refine tri_exit ?_
        repeat (first | refine pn_then ?_ | refine pn_oth (by decide) ?_)
        refine pn_ex ?_
        obtain rfl : i = m + 2 := by omega
        have hpc := hP.c
        refine nx (sl 0 rfl (sl 1 rfl (sl 5 rfl (sl 7 rfl (sl 9 rfl (sl 13 rfl sn)))))) (el 1114 rfl en) ?_
        refine tri_reg mixed hcx ?_ _ _
        refine mv rfl ?_
        refine mv rfl ?_
        refine sb _ rfl rfl rfl ⟨rfl, by omega, by omega⟩ ?_
        refine asg rfl ?_
        refine ⟨by kernel_rfl, ?_⟩
        refine pn_blk ?_
        exact pn_back (q - 1, 1 - c, ws) (by first | omega | (dsimp only; omega)) (digI_step hD hvV (by omega) hP (by omega)) (sl 0 rfl (sl 1 rfl (sl 5 rfl (sl 7 rfl (sl 9 rfl sn))))) (el 1114 rfl en)
    · refine tri_exit ?_
      repeat (first | refine pn_then ?_ | refine pn_oth (by decide) ?_)
      refine pn_ex ?_
      obtain rfl : bw = 0 := by have := hD.bw; omega
      have hE := digI_end hD (by omega); have hQ : q = ((U / V : Nat) : Int) := hE.1.trans (Int.natCast_ediv _ _).symm; subst hQ
      have hz : us = pad (U % V) us.length := pad_of hD.lim (hE.2.trans (Int.natCast_emod _ _).symm); have hDl := hD.q; rw [hD.len] at hz; subst hz
      refine nx (sl 7 rfl sn) (el 1114 rfl en) ?_
      refine tri_seq ?_
      refine tri_reg mixed hcx ?_ _ _
      refine mv rfl ?_
      refine cvm ((U / V : Nat) : Int) rfl cvU64U32 (Int.emod_eq_of_lt hDl.1 hDl.2) ?_
      refine asg rfl ?_
      refine ⟨by kernel_rfl, ?_⟩
      refine nx (sl 4 rfl sn) (el 1114 rfl en) ?_
      refine tri_ret ?_
      repeat (first | refine pn_thenr ?_ | refine pn_blkr ?_)
      exact ret1 hcx rfl (rv_tmp rfl) (.refl _) (el 1114 rfl en)

theorem sgnc_nlt {M N : Nat} (h : ¬ sgnc (M : Int) N < 0) : N ≤ M := Nat.le_of_not_lt fun h1 => h (by rw [sgnc_lt (by omega)]; omega)
theorem tup_le {l l' : List T} (h : LeL l l') : (T.tup l).le (T.tup l') := fun β u v ⟨vs, e, k⟩ => ⟨vs, e, k.le h⟩
theorem top_pos {V m : Nat} (h : (dig V).length = m + 1) : 0 < at_ (dig V) m := by
  have h1 := (dig_lim V).at_ m
  have h2 : at_ (dig V) m ≠ 0 := by
    have := tl_of_can (dig_can V)
    rw [h] at this
    intro h0
    simp only [tl, h0, if_true] at this
    have := Mt.tl_le (dig V) m
    omega
  omega
theorem split3 {us : List Int} {j k : Nat} (h : j + k ≤ us.length) : ∃ pre sub post, us = pre ++ sub ++ post ∧ pre.length = j ∧ sub.length = k :=
  ⟨us.take j, (us.drop j).take k, (us.drop j).drop k, by rw [List.append_assoc, List.take_append_drop, List.take_append_drop], by rw [List.length_take]; omega, by rw [List.length_take, List.length_drop]; omega⟩
theorem div_parts {M N s k : Nat} (hk : lim N = k + 1) (hs : s + nbits (at_ (dig N) k).toNat = 32) : lim (N * 2 ^ s) = k + 1 ∧ ((N * 2 ^ s : Nat) : Int) < B (k + 1) ∧ 0 < N * 2 ^ s := by
  have h := norm_fits hk hs
  exact ⟨h.1, by rw [B_two]; exact Int.ofNat_lt.2 h.2, Nat.mul_pos (lim_pos hk) (Nat.two_pow_pos _)⟩

theorem nat_Div {M N k l : Nat} (hN0 : 0 < N) (hk : k ≤ 1099511627776) (hl : l ≤ 1099511627776) : Fn Tryz.prog 97 [T.L M k, T.L N l] [] [] [] (T.tup [T.l cU (dig (M / N)), T.l cU (dig (M % N)), T.c (.int .i64 0)]) := by
  refine fn_of Tryz.func97 rfl (by show 2 ≤ 99; decide) fun cx hcx => ?_
  refine tri_sub (sl 0 rfl (sl 1 rfl sn)) en ?_
  refine tri_ex 0 rfl fun xs ⟨hl0, hv0, hb0⟩ => ?_
  refine tri_ex 1 rfl fun ys ⟨hl1, hv1, hb1⟩ => ?_
  have hM := lim_val hl0 hv0 hb0; have hN := lim_val hl1 hv1 hb1; unfold lim at hM hN
  have hLM : lim M ≤ k := hM; have hLN : lim N ≤ l := hN
  have hp := lim_ps hN0; unfold lim at hp
  refine tri_seq ?_
  refine tri_reg mixed hcx ?_ _ _
  refine asg rfl ?_
  refine asg rfl ?_
  refine asg rfl ?_
  refine ⟨by kernel_rfl, ?_⟩
  refine nx (sl 0 rfl (sl 1 rfl sn)) en ?_
  refine tri_seq ?_
  refine tri_reg mixed hcx ?_ _ _
  refine mv rfl ?_
  refine ca rfl (h := nat_trim (by omega)) (hn := ?_)
  refine mv rfl ?_
  refine ca rfl (h := nat_trim (by omega)) (hn := ?_)
  refine asg rfl ?_
  refine asg rfl ?_
  refine ⟨by kernel_rfl, ?_⟩
  refine nx (sl 0 rfl (sl 1 rfl sn)) en ?_
  refine tri_seq ?_
  refine tri_block ?_
  refine tri_seq ?_
  refine tri_reg mixed hcx ?_ _ _
  refine mv rfl ?_
  refine ln slLs rfl ?_
  refine ceq rfl rfl (decide_eq_false (by omega)) ?_
  refine asg rfl ?_
  refine ⟨by kernel_rfl, ?_⟩
  refine nx (sl 0 rfl (sl 1 rfl (sl 18 rfl sn))) en ?_
  refine tri_false rfl rfl ?_
  refine tri_seq ?_
  refine tri_reg mixed hcx ?_ _ _
  refine mv rfl ?_
  refine mv rfl ?_
  refine ca rfl (h := nat_Cmp (by omega) (by omega)) (hn := ?_)
  refine clt rfl rfl rfl ?_
  refine asg rfl ?_
  refine ⟨by kernel_rfl, ?_⟩
  refine nx (sl 0 rfl (sl 1 rfl (sl 22 rfl sn))) en ?_
  refine tri_if rfl (fun hc => ?_) (fun hc => ?_)
  · have hlt := sgnc_neg hc
    refine tri_seq ?_
    refine tri_reg mixed hcx ?_ _ _
    refine mv rfl ?_
    refine ca rfl (h := nat_Norm (by omega)) (hn := ?_)
    refine asg rfl ?_
    refine asg rfl ?_
    refine asg rfl ?_
    refine ⟨by kernel_rfl, ?_⟩
    refine nx (sl 4 rfl (sl 5 rfl (sl 6 rfl sn))) en ?_
    refine tri_ret ?_
    repeat (first | refine pn_thenr ?_ | refine pn_blkr ?_)
    exact ret3 hcx rfl (rv_tmp rfl) (rv_tmp rfl) (rv_tmp rfl) (tup_le ⟨nil_dig (Nat.div_eq_of_lt hlt), .of (by rw [Nat.mod_eq_of_lt hlt]), .refl _, trivial⟩) en
  · have hge := sgnc_nlt hc
    refine tri_seq ?_
    refine tri_reg mixed hcx ?_ _ _
    refine mv rfl ?_
    refine ln slLs rfl ?_
    refine ceq rfl rfl rfl ?_
    refine asg rfl ?_
    refine ⟨by kernel_rfl, ?_⟩
    refine nx (sl 0 rfl (sl 1 rfl (sl 29 rfl sn))) en ?_
    refine tri_if rfl (fun hd => ?_) (fun hd => ?_)
    · have h1N := at_one (N := N) (by unfold lim; omega); rw [← getD_at] at h1N
      have h01 : (cU.X ((dig N).getD 0 cU.dflt)).le (T.c (.int .u32 (N : Int))) := .of (by rw [h1N]; rfl)
      have bN := gd (dig_lim N) 0; have hmod := Nat.mod_lt M hN0
      have hL1 : Lim [((M % N : Nat) : Int)] := Lim.one (by omega) (by omega)
      have hL2 : val [((M % N : Nat) : Int)] = ((M % N : Nat) : Int) := val_one _
      have hL3 : [((M % N : Nat) : Int)].length ≤ 1 := Nat.le_refl _
      refine tri_seq ?_
      refine tri_reg mixed hcx ?_ _ _
      refine mv rfl ?_
      refine mv rfl ?_
      refine ix rfl rfl slLs ⟨(rfl : _ = ((0 : Nat) : Int)), by omega⟩ ?_
      refine lf rfl tyU32 ?_
      refine ca rfl (h := nat_short (dig_lim _) (dig_val _) (by omega) (by omega) (by show (dig _).length ≤ _; omega)) (hn := ?_)
      refine mv rfl ?_
      refine ex rfl rfl ?_
      refine ex rfl rfl ?_
      refine asg rfl ?_
      refine asg rfl ?_
      refine ⟨by kernel_rfl, ?_⟩
      refine nx (sl 7 rfl (sl 8 rfl sn)) en ?_
      refine tri_seq ?_
      refine tri_reg mixed hcx ?_ _ _
      refine mv rfl ?_
      refine mv rfl ?_
      refine bl1 rfl slLs zvU32 ?_
      refine ca rfl (h := nat_trim (by omega)) (hn := ?_)
      refine asg rfl ?_
      refine asg rfl ?_
      refine asg rfl ?_
      refine ⟨by kernel_rfl, ?_⟩
      refine nx (sl 4 rfl (sl 5 rfl (sl 6 rfl sn))) en ?_
      refine tri_ret ?_
      repeat (first | refine pn_thenr ?_ | refine pn_blkr ?_)
      exact ret3 hcx rfl (rv_tmp rfl) (rv_tmp rfl) (rv_tmp rfl) (.refl _) en
    · refine tri_skip ?_
      refine pn_blk ?_
      refine nx (sl 0 rfl (sl 1 rfl sn)) en ?_
      refine tri_seq ?_
      obtain ⟨m, hm⟩ : ∃ m, (dig N).length = m + 1 := ⟨(dig N).length - 1, by omega⟩
      have bx := gd (dig_lim N) m; have hn32 : nbits ((dig N).getD m cU.dflt).toNat ≤ 32 := nbits_le (by omega)
      obtain ⟨s, hs⟩ : ∃ s, s + nbits ((dig N).getD m cU.dflt).toNat = 32 := ⟨32 - nbits ((dig N).getD m cU.dflt).toNat, by omega⟩
      obtain ⟨hlV, hVB, hV0⟩ := div_parts (M := M) (s := s) hm hs
      have hM0 : 0 < M := by omega
      have hVl : lim (N * 2 ^ s) ≤ (dig N).length + s / 32 + 1 := by omega
      have hAl : lim (M * 2 ^ s) ≤ (dig M).length + s / 32 + 1 := lim_le (by rw [B_two]; have := shl_fits (M := M) (k := (dig M).length) rfl (show s % 32 < 32 by omega); have h2 : 32 * ((dig M).length + s / 32 + 1) = 32 * ((dig M).length + 1) + 32 * (s / 32) := by { omega }; rw [h2, Nat.pow_add, show M * 2 ^ s = M * 2 ^ (s % 32) * 2 ^ (32 * (s / 32)) from by rw [Nat.mul_assoc, ← Nat.pow_add, Nat.mod_add_div]]; exact_mod_cast Nat.mul_lt_mul_of_pos_right this (Nat.two_pow_pos _))
      have hAg : (dig M).length ≤ lim (M * 2 ^ s) := lim_mono (Nat.le_mul_of_pos_right _ (Nat.two_pow_pos _))
      have hPl := pad_length hAl; have hR0 : ((pad (M * 2 ^ s) ((dig M).length + s / 32 + 1)).take (lim (M * 2 ^ s)) ++ [0, 0]).length = lim (M * 2 ^ s) + 2 := by rw [pad_take, List.length_append]; rfl
      have hls : (dig N).length ≤ (dig M).length := lim_mono hge
      refine tri_reg mixed hcx ?_ _ _
      refine mv rfl ?_
      refine mv rfl ?_
      refine ln slLs rfl ?_
      refine sb ((m : Int)) rfl rfl rfl (by omega) ?_
      refine ix rfl rfl slLs ⟨rfl, by omega⟩ ?_
      refine lf rfl tyU32 ?_
      refine ca rfl (h := c_LZ32 (by omega)) (hn := ?_)
      refine asg rfl ?_
      refine ⟨by kernel_rfl, ?_⟩
      refine nx (sl 0 rfl (sl 1 rfl (sl 9 rfl sn))) en ?_
      refine tri_seq ?_
      refine tri_as 9 (Z := T.c (.int .i64 (s : Int))) rfl (ci (by omega)) ?_
      refine tri_reg mixed hcx ?_ _ _
      refine mv rfl ?_
      refine mv rfl ?_
      refine can (e := 515) rfl (h := nat_shl (n := s) hN0 (by show (dig _).length ≤ _; omega) (by omega)) (hn := ?_)
      refine asg rfl ?_
      refine ⟨by kernel_rfl, ?_⟩
      refine nx (sl 0 rfl (sl 1 rfl (sl 9 rfl (sl 10 rfl sn)))) (el 515 rfl en) ?_
      refine tri_seq ?_
      refine tri_fz 515 rfl ?_
      refine tri_rdv 10 515 (lim (N * 2 ^ s)) rfl rfl (by rw [pad_length hVl]; exact hVl) ?_
      refine tri_as 10 (Z := T.l cU (dig (N * 2 ^ s))) rfl (.of (by rw [pad_take])) ?_
      refine tri_sub (sl 0 rfl (sl 1 rfl (sl 9 rfl (sl 10 rfl sn)))) en ?_
      refine tri_reg mixed hcx ?_ _ _
      refine mv rfl ?_
      refine mv rfl ?_
      refine can (e := 515) rfl (h := nat_shl (n := s) hM0 (by show (dig _).length ≤ _; omega) (by omega)) (hn := ?_)
      refine bl2 rfl rfl slLs zvU32 ?_
      refine apv 1114 rfl rfl rfl slLs ⟨by omega, by simp only [List.length_cons, List.length_nil]; omega⟩ (by decide) ?_
      refine mv rfl ?_
      refine ln slLs rfl ?_
      refine ad ((((dig M).length + 1 : Nat) : Int)) rfl rfl rfl (by omega) ?_
      refine sho rfl rfl slLs rfl ⟨rfl, by omega, by omega⟩ ?_
      refine asg rfl ?_
      refine ⟨by kernel_rfl, ?_⟩
      refine nx (sl 0 rfl (sl 1 rfl (sl 9 rfl (sl 10 rfl (sl 11 rfl sn))))) (el 1114 rfl en) ?_
      refine tri_seq ?_
      refine tri_reg mixed hcx ?_ _ _
      refine mv rfl ?_
      refine ln slLs rfl ?_
      refine mv rfl ?_
      refine ln slLs rfl ?_
      refine sb ((((dig M).length - (dig N).length : Nat) : Int)) rfl rfl rfl (by omega) ?_
      refine ad ((((dig M).length - (dig N).length + 1 : Nat) : Int)) rfl rfl rfl (by omega) ?_
      refine mkz (c := cU) (n := (dig M).length - (dig N).length + 1) 1216 slLs rfl (by omega) (fun u => ⟨zvU32, zrU u⟩) (by decide) ?_
      refine asg rfl ?_
      refine ⟨by kernel_rfl, ?_⟩
      refine nx (sl 0 rfl (sl 1 rfl (sl 9 rfl (sl 10 rfl (sl 11 rfl (sl 12 rfl sn)))))) (el 1114 rfl (el 1216 rfl en)) ?_
      refine tri_seq ?_
      refine tri_seq ?_
      refine tri_reg mixed hcx ?_ _ _
      refine mv rfl ?_
      refine ln slLs rfl ?_
      refine mv rfl ?_
      refine ln slLs rfl ?_
      refine sb ((((dig M).length - (dig N).length : Nat) : Int)) rfl rfl rfl (by omega) ?_
      refine asg rfl ?_
      refine ⟨by kernel_rfl, ?_⟩
      refine nx (sl 9 rfl (sl 10 rfl (sl 11 rfl (sl 12 rfl (sl 13 rfl sn))))) (el 1114 rfl (el 1216 rfl en)) ?_
      refine tri_block ?_
      refine tri_loop (ι := Nat × List Int × List Int) (fun (k, us, qs) => [(9, T.c (.int .i64 (s : Int))), (10, T.l cU (dig (N * 2 ^ s))), (11, T.v 1114 0 ((dig M).length + 1)), (12, T.o 1216), (13, T.c (.int .i64 ((k : Int) - 1)))]) (fun (k, us, qs) => [(1114, some (Ent.row cU 78 (us))), (1216, some (Ent.row cU 78 (qs)))]) (fun (k, us, qs) => k) (fun (k, us, qs) => (k ≤ (dig M).length - (dig N).length + 1) ∧ (divI us qs ((M * 2 ^ s : Nat) : Int) ((N * 2 ^ s : Nat) : Int) (lim (M * 2 ^ s) + 2) ((dig M).length - (dig N).length + 1) k)) ((dig M).length - (dig N).length + 1, (pad (M * 2 ^ s) ((dig M).length + s / 32 + 1)).take (lim (M * 2 ^ s)) ++ [0, 0], List.replicate ((dig M).length - (dig N).length + 1) 0) ⟨Nat.le_refl _, divI_start hR0 (by rw [pad_take]; exact (dig_lim _).append (Lim.noughts 2)) (by rw [pad_take, val_append, dig_val, show val [0, 0] = 0 from val_noughts 2]; omega) (by rw [hm]; exact div_room hm rfl (by omega))⟩ (sl 9 rfl (sl 10 rfl (sl 11 rfl (sl 12 rfl (sw 13 rfl (ci (by omega)) sn))))) (el 1114 rfl (el 1216 rfl en)) ?_
      rintro ⟨k, us, qs⟩ ⟨hk, hI⟩
      refine tri_sub (sl 9 rfl (sl 10 rfl (sl 11 rfl (sl 12 rfl (sl 13 rfl sn))))) (el 1114 rfl (el 1216 rfl en)) ?_
      refine tri_seq ?_
      refine tri_seq ?_
      rcases Nat.eq_zero_or_pos k with h0 | h0
      · subst h0
        refine tri_reg mixed hcx ?_ _ _
        refine mv rfl ?_
        refine cge rfl rfl (decide_eq_false (by omega)) ?_
        refine ⟨by kernel_rfl, ?_⟩
        refine nx (sl 9 rfl (sl 10 rfl (sl 11 rfl (sl 12 rfl (sl 13 rfl (sl 77 rfl sn)))))) (el 1114 rfl (el 1216 rfl en)) ?_
        refine tri_false rfl rfl ?_
        refine tri_exit ?_
        repeat (first | refine pn_then ?_ | refine pn_oth (by decide) ?_)
        refine pn_ex ?_
        refine nx (sl 9 rfl (sl 11 rfl (sl 12 rfl sn))) (el 1114 rfl (el 1216 rfl en)) ?_
        refine tri_seq ?_
        have hE := divI_end hI (by omega); have hQ1 : val qs = ((M / N : Nat) : Int) := by rw [hE.1, ← Int.natCast_ediv, (div_shift M N s hN0).1]
        have hQ2 := hI.qlim; have hQ3 : qs.length ≤ (dig M).length - (dig N).length + 1 := Nat.le_of_eq hI.qlen
        have hRm : val us = ((M * 2 ^ s % (N * 2 ^ s) : Nat) : Int) := hE.2.trans (Int.natCast_emod _ _).symm
        have hmod := Nat.mod_lt (M * 2 ^ s) hV0; have hul := hI.ulen
        have hR4 : lim (M * 2 ^ s % (N * 2 ^ s)) ≤ m + 1 := Nat.le_trans (lim_mono (Nat.le_of_lt hmod)) (by omega)
        have hR1 : val (us.take ((dig M).length + 1)) = ((M * 2 ^ s % (N * 2 ^ s) : Nat) : Int) := (val_take_mod hI.ulim (by omega) (by have := B_mono (show m + 1 ≤ (dig M).length + 1 by omega); omega)).trans hRm
        have hR2 : Lim (us.take ((dig M).length + 1)) := hI.ulim.take _; have hR3 : (us.take ((dig M).length + 1)).length ≤ (dig M).length + 1 := by rw [List.length_take]; omega
        refine tri_fz 1216 rfl ?_
        refine tri_rd 12 1216 rfl rfl ?_
        refine tri_fz 1114 rfl ?_
        refine tri_rdv 11 1114 ((dig M).length + 1) rfl rfl (by omega) ?_
        refine tri_reg mixed hcx ?_ _ _
        refine mv rfl ?_
        refine ca rfl (h := nat_trim (by omega)) (hn := ?_)
        refine mv rfl ?_
        refine ca rfl (h := nat_trim (by omega)) (hn := ?_)
        refine mv rfl ?_
        refine ca rfl (h := nat_shr (by omega) (by omega)) (hn := ?_)
        refine asg rfl ?_
        refine asg rfl ?_
        refine asg rfl ?_
        refine ⟨by kernel_rfl, ?_⟩
        refine nx (sl 4 rfl (sl 5 rfl (sl 6 rfl sn))) (el 1114 rfl (el 1216 rfl en)) ?_
        refine tri_ret ?_
        repeat (first | refine pn_thenr ?_ | refine pn_blkr ?_)
        exact ret3 hcx rfl (rv_tmp rfl) (rv_tmp rfl) (rv_tmp rfl) (tup_le ⟨.refl _, .of (by rw [(div_shift M N s hN0).2]), .refl _, trivial⟩) en
      · obtain ⟨j, rfl⟩ : ∃ j, k = j + 1 := ⟨k - 1, by omega⟩
        have hul := hI.ulen; have hql := hI.qlen
        obtain ⟨pre, sub, post, rfl, hpl, hsl⟩ := split3 (us := us) (j := j) (k := m + 2) (by omega)
        obtain ⟨p1, p2, p3, p4, p5⟩ := divI_part hI hpl hsl hVB
        obtain ⟨U, hvU⟩ : ∃ U : Nat, val sub = U := ⟨(val sub).toNat, by omega⟩
        have hsL : Lim sub := hI.ulim.left.right
        have hvv : (T.v 1114 (0 + j) (j + (m + 2) - j)).le (T.v 1114 pre.length (m + 2)) := .of (by rw [hpl, Nat.zero_add, Nat.add_sub_cancel_left])
        have hVd : (dig (N * 2 ^ s)).length = m + 1 := hlV
        have hmod := Nat.mod_lt U hV0; have hpm : lim (U % (N * 2 ^ s)) ≤ m + 2 := Nat.le_trans (lim_mono (Nat.le_of_lt hmod)) (by omega)
        refine tri_reg mixed hcx ?_ _ _
        refine mv rfl ?_
        refine cge rfl rfl (decide_eq_true (by omega)) ?_
        refine ⟨by kernel_rfl, ?_⟩
        refine nx (sl 9 rfl (sl 10 rfl (sl 11 rfl (sl 12 rfl (sl 13 rfl (sl 77 rfl sn)))))) (el 1114 rfl (el 1216 rfl en)) ?_
        refine tri_true rfl rfl ?_
        refine tri_skip ?_
        refine nx (sl 9 rfl (sl 10 rfl (sl 11 rfl (sl 12 rfl (sl 13 rfl sn))))) (el 1114 rfl (el 1216 rfl en)) ?_
        refine tri_seq ?_
        refine tri_block ?_
        refine tri_reg mixed hcx ?_ _ _
        refine mv rfl ?_
        refine mv rfl ?_
        refine mv rfl ?_
        refine mv rfl ?_
        refine mv rfl ?_
        refine mv rfl ?_
        refine ln slLs rfl ?_
        refine ad (((j + (m + 1) : Nat) : Int)) rfl rfl rfl (by omega) ?_
        refine ad (((j + (m + 2) : Nat) : Int)) rfl rfl rfl (by omega) ?_
        refine scv rfl slLs rfl rfl ⟨(by omega : _ = (j : Int)), rfl, by omega, by omega⟩ ?_
        refine mv rfl ?_
        refine cas (hE := rfl) (e := 1114) rfl (h := nat_digit (post := post) hsL hsl hvU (dig_lim _) hVd (dig_val _) (top_pos hVd) hV0 (by omega) (by omega)) (hn := ?_)
        refine ixo rfl rfl rfl slLs ⟨(by omega : _ = (j : Int)), by omega⟩ ?_
        refine so rfl rfl rfl (.refl _) tyU32 ⟨rfl, by omega⟩ ?_
        refine ⟨by kernel_rfl, ?_⟩
        refine pn_blk ?_
        refine nx (sl 9 rfl (sl 10 rfl (sl 11 rfl (sl 12 rfl (sl 13 rfl sn))))) (el 1114 rfl (el 1216 rfl en)) ?_
        refine tri_reg mixed hcx ?_ _ _
        refine mv rfl ?_
        refine sb _ rfl rfl rfl ⟨rfl, by omega, by omega⟩ ?_
        refine asg rfl ?_
        refine ⟨by kernel_rfl, ?_⟩
        exact pn_back (j, pre ++ pad (U % (N * 2 ^ s)) (m + 2) ++ post, qs.set j ((U / (N * 2 ^ s) : Nat) : Int)) (by first | omega | (dsimp only; omega)) ⟨by omega, by { have h := divI_step hI hpl hsl hVB (by omega) (by omega) (pad_length hpm) (pad_lim _ _) (by rw [pad_val, hvU, Int.natCast_emod]); rwa [hvU, ← Int.natCast_ediv] at h }⟩ (sl 9 rfl (sl 10 rfl (sl 11 rfl (sl 12 rfl (sw 13 rfl (ci (by omega)) sn))))) (el 1114 rfl (el 1216 rfl en))

theorem nat_Gcd {M N k l : Nat} (hk : k ≤ 1099511627776) (hl : l ≤ 1099511627776) : Fn Tryz.prog 81 [T.L M k, T.L N l] [] [] [] (T.l cU (dig (Nat.gcd M N))) := by
  refine fn_of Tryz.func81 rfl (by show 2 ≤ 27; decide) fun cx hcx => ?_
  refine tri_sub (sl 0 rfl (sl 1 rfl sn)) en ?_
  refine tri_ex 0 rfl fun xs ⟨hl0, hv0, hb0⟩ => ?_
  refine tri_ex 1 rfl fun ys ⟨hl1, hv1, hb1⟩ => ?_
  have hM := lim_val hl0 hv0 hb0; have hN := lim_val hl1 hv1 hb1; unfold lim at hM hN
  refine tri_seq ?_
  refine tri_reg mixed hcx ?_ _ _
  refine asg rfl ?_
  refine ⟨by kernel_rfl, ?_⟩
  refine nx (sl 0 rfl (sl 1 rfl sn)) en ?_
  refine tri_seq ?_
  refine tri_reg mixed hcx ?_ _ _
  refine mv rfl ?_
  refine ca rfl (h := nat_Norm (by omega)) (hn := ?_)
  refine mv rfl ?_
  refine ca rfl (h := nat_Norm (by omega)) (hn := ?_)
  refine asg rfl ?_
  refine asg rfl ?_
  refine ⟨by kernel_rfl, ?_⟩
  refine nx (sl 5 rfl (sl 6 rfl sn)) en ?_
  refine tri_seq ?_
  refine tri_block ?_
  refine tri_loop (ι := Nat × Nat) (fun (a, b) => [(5, T.l cU (dig a)), (6, T.l cU (dig b))]) (fun (a, b) => []) (fun (a, b) => b) (fun (a, b) => (Nat.gcd a b = Nat.gcd M N) ∧ (lim a ≤ 1099511627776) ∧ (lim b ≤ 1099511627776)) (M, N) ⟨rfl, Nat.le_trans hM hk, Nat.le_trans hN hl⟩ (sl 5 rfl (sl 6 rfl sn)) en ?_
  rintro ⟨a, b⟩ ⟨hg, ha, hb⟩
  refine tri_sub (sl 5 rfl (sl 6 rfl sn)) en ?_
  refine tri_seq ?_
  refine tri_seq ?_
  refine tri_reg mixed hcx ?_ _ _
  refine mv rfl ?_
  refine ln slLs rfl ?_
  refine cgt rfl rfl rfl ?_
  refine ⟨by kernel_rfl, ?_⟩
  refine nx (sl 5 rfl (sl 6 rfl (sl 16 rfl sn))) en ?_
  refine tri_if rfl (fun hc => ?_) (fun hc => ?_)
  · have hb0 : 0 < b := Nat.pos_of_ne_zero fun h => by { subst h; rw [dig_zero] at hc; simp at hc }
    refine tri_skip ?_
    refine nx (sl 5 rfl (sl 6 rfl sn)) en ?_
    refine tri_block ?_
    refine tri_seq ?_
    refine tri_reg mixed hcx ?_ _ _
    refine mv rfl ?_
    refine mv rfl ?_
    refine ca rfl (h := nat_Div (by omega) (by omega) (by omega)) (hn := ?_)
    refine mv rfl ?_
    refine ex rfl rfl ?_
    refine ex rfl rfl ?_
    refine ex rfl rfl ?_
    refine asg rfl ?_
    refine asg rfl ?_
    refine asg rfl ?_
    refine ⟨by kernel_rfl, ?_⟩
    refine nx (sl 6 rfl (sl 8 rfl sn)) en ?_
    refine tri_reg mixed hcx ?_ _ _
    refine mv rfl ?_
    refine mv rfl ?_
    refine asg rfl ?_
    refine asg rfl ?_
    refine ⟨by kernel_rfl, ?_⟩
    refine pn_blk ?_
    exact pn_back (b, a % b) (Nat.mod_lt a hb0) ⟨by rw [← hg, Nat.gcd_comm a b, Nat.gcd_rec b a, Nat.gcd_comm], hb, Nat.le_trans (lim_mono (Nat.le_of_lt (Nat.mod_lt a hb0))) hb⟩ (sl 5 rfl (sl 6 rfl sn)) en
  · refine tri_exit ?_
    repeat (first | refine pn_then ?_ | refine pn_oth (by decide) ?_)
    refine pn_ex ?_
    obtain rfl : b = 0 := Nat.eq_zero_of_not_pos fun h => by { have := lim_ps h; unfold lim at this; omega }
    rw [Nat.gcd_zero_right] at hg
    refine nx (sl 5 rfl sn) en ?_
    refine tri_seq ?_
    refine tri_reg mixed hcx ?_ _ _
    refine mv rfl ?_
    refine asg rfl ?_
    refine ⟨by kernel_rfl, ?_⟩
    refine nx (sl 4 rfl sn) en ?_
    refine tri_ret ?_
    repeat (first | refine pn_thenr ?_ | refine pn_blkr ?_)
    exact ret1 hcx rfl (rv_tmp rfl) (.of (by rw [hg])) en
end Go.Proofs.YtekghdfbhbhigaaGreatDoor.V
/- Contracts of package zint. -/
set_option linter.unusedVariables false
set_option linter.unusedSimpArgs false
set_option maxRecDepth 100000
namespace Go.Proofs.YtekghdfbhbhigaaGreatDoor.V
open Go.RowKit Mt Nml
theorem intv_not (s : Bool) (M : Nat) : intv (!s) M = -intv s M := by cases s <;> simp [intv]
theorem intv_zero (s : Bool) : intv s 0 = 0 := by cases s <;> rfl
theorem zl_intv (s : Bool) (N : Nat) : zl (intv s N) = lim N := by unfold zl; rw [intv_natAbs]
theorem z_cast {z z' : Int} {k k' : Nat} (h : z = z') (hk : k ≤ k') : (T.Z z k).le (T.Z z' k') := by subst h; exact z_mono hk
theorem z_bd {s : Bool} {M : Nat} {xs : List Int} {k : Nat} (h1 : Lim xs) (h2 : val xs = M) (h3 : xs.length ≤ k) : zl (intv s M) ≤ k := by rw [zl_intv]; exact lim_val h1 h2 h3
/-- However told: the bound may be another. -/
theorem z_as {z : Int} {k k' : Nat} (h : zl z ≤ k') : (T.Z z k).le (T.Z z k') := ex_le id fun _ _ => ⟨h, .refl _⟩
theorem made0 {s : Bool} {N k : Nat} (h : lim N = 0) : (T.st [T.c (.bool false), T.c (.slice none 0 0)]).le (T.Z (intv s N) k) := by
  have : N = 0 := Nat.eq_zero_of_not_pos fun h1 => by have := lim_ps h1; omega
  subst this
  rw [intv_zero]
  have e := z_of (s := false) (z := 0) (k := k) rfl (by rw [show zl 0 = 0 from by unfold zl; exact lim_zero]; omega)
  rw [show (0 : Int).natAbs = 0 from rfl, dig_zero] at e
  exact nil_st.trans e
theorem made1 {s : Bool} {N k : Nat} (h : 0 < lim N) (hk : lim N ≤ k) : (T.st [T.c (.bool s), T.l cU (dig N)]).le (T.Z (intv s N) k) := by
  have h0 : N ≠ 0 := fun e => by subst e; rw [lim_zero] at h; omega
  have e := z_of (s := s) (z := intv s N) (k := k) (intv_sgn s h0) (by rw [zl_intv]; exact hk)
  rwa [intv_natAbs] at e

theorem zi_made {s : Bool} {N k : Nat} (hk : k ≤ 17592186044416) : Fn Tryz.prog 51 [T.c (.bool s), T.L N k] [] [] [] (T.Z (intv s N) k) := by
  refine fn_of Tryz.func51 rfl (by show 2 ≤ 32; decide) fun cx hcx => ?_
  refine tri_sub (sl 0 rfl (sl 1 rfl sn)) en ?_
  refine tri_ex 1 rfl fun xs ⟨hl, hv, hb⟩ => ?_
  have hN := lim_val hl hv hb
  refine tri_seq ?_
  refine tri_reg mixed hcx ?_ _ _
  refine nw 10 zeZ ?_
  refine ⟨by kernel_rfl, ?_⟩
  refine nx (sl 0 rfl (sl 1 rfl (sl 4 rfl sn))) (el 10 rfl en) ?_
  refine tri_seq ?_
  refine tri_reg mixed hcx ?_ _ _
  refine mv rfl ?_
  refine ln slLs rfl ?_
  refine asg rfl ?_
  refine ⟨by kernel_rfl, ?_⟩
  refine nx (sl 0 rfl (sl 1 rfl (sl 4 rfl (sl 5 rfl sn)))) (el 10 rfl en) ?_
  refine tri_seq ?_
  refine tri_block ?_
  refine tri_loop (ι := Nat) (fun j => [(0, T.c (.bool s)), (1, T.l cU xs), (4, T.p 10 0), (5, T.c (.int .i64 (j : Int)))]) (fun j => [(10, some (Ent.box 24 [T.c (.bool false), T.c (.slice none 0 0)]))]) (fun j => j) (fun j => (j ≤ xs.length) ∧ (tl xs j = tl xs xs.length)) xs.length ⟨Nat.le_refl _, rfl⟩ (sl 0 rfl (sl 1 rfl (sl 4 rfl (sl 5 rfl sn)))) (el 10 rfl en) ?_
  rintro j ⟨hj, ht⟩
  refine tri_sub (sl 0 rfl (sl 1 rfl (sl 4 rfl (sl 5 rfl sn)))) (el 10 rfl en) ?_
  refine tri_seq ?_
  refine tri_seq ?_
  rcases Nat.eq_zero_or_pos j with h0 | h0
  · subst h0
    refine tri_reg mixed hcx ?_ _ _
    refine mv rfl ?_
    refine cgt rfl rfl (decide_eq_false (by omega)) ?_
    refine mv rfl ?_
    refine j_off rfl rfl rfl rfl ?_
    refine j_off rfl rfl rfl rfl ?_
    refine j_off rfl rfl rfl rfl ?_
    refine j_off rfl rfl rfl rfl ?_
    refine j_off rfl rfl rfl rfl ?_
    refine j_off rfl rfl rfl rfl ?_
    refine pk rfl rfl ?_
    refine ⟨by kernel_rfl, ?_⟩
    refine nx (sl 0 rfl (sl 1 rfl (sl 4 rfl (sl 5 rfl (sl 18 rfl sn))))) (el 10 rfl en) ?_
    refine tri_false rfl rfl ?_
    refine tri_exit ?_
    repeat (first | refine pn_then ?_ | refine pn_oth (by decide) ?_)
    refine pn_ex ?_
    refine nx (sl 0 rfl (sl 1 rfl (sl 4 rfl (sl 5 rfl sn)))) (el 10 rfl en) ?_
    refine tri_seq ?_
    refine tri_seq ?_
    have hkk : lim N = 0 := by rw [← tl_lim hl hv, ← ht]; rfl
    refine tri_reg mixed hcx ?_ _ _
    refine mv rfl ?_
    refine ceq rfl rfl (decide_eq_true (by omega)) ?_
    refine ⟨by kernel_rfl, ?_⟩
    refine nx (sl 0 rfl (sl 1 rfl (sl 4 rfl (sl 5 rfl (sl 22 rfl sn))))) (el 10 rfl en) ?_
    refine tri_true rfl rfl ?_
    refine tri_seq ?_
    refine tri_reg mixed hcx ?_ _ _
    refine bu stZ rfl ?_
    refine st rfl rfl rfl tyZ rfl ?_
    refine ⟨by kernel_rfl, ?_⟩
    refine nx (sl 4 rfl sn) (el 10 rfl en) ?_
    refine tri_ret ?_
    repeat (first | refine pn_thenr ?_ | refine pn_blkr ?_)
    exact ret1 hcx rfl (rv_cell (c' := cx) (n := 0) rfl rfl tyZ rfl) (made0 hkk) en
  · obtain ⟨m, rfl⟩ : ∃ m, j = m + 1 := ⟨j - 1, by omega⟩
    refine tri_reg mixed hcx ?_ _ _
    refine mv rfl ?_
    refine cgt rfl rfl (decide_eq_true (by omega)) ?_
    refine mv rfl ?_
    refine mv rfl ?_ (hg := gd1)
    refine mv rfl ?_ (hg := gd1)
    refine sb ((m : Int)) rfl rfl rfl (by omega) ?_ (hg := gd1)
    refine ix rfl rfl slLs ⟨rfl, by omega⟩ ?_ (hg := gd1)
    refine lf rfl tyU32 ?_ (hg := gd1)
    refine ceq rfl rfl rfl ?_ (hg := gd1)
    refine pk rfl rfl ?_
    refine ⟨by kernel_rfl, ?_⟩
    refine nx (sl 0 rfl (sl 1 rfl (sl 4 rfl (sl 5 rfl (sl 18 rfl sn))))) (el 10 rfl en) ?_
    refine tri_if rfl (fun hc => ?_) (fun hc => ?_)
    · rw [getD_at] at hc
      refine tri_skip ?_
      refine nx (sl 0 rfl (sl 1 rfl (sl 4 rfl (sl 5 rfl sn)))) (el 10 rfl en) ?_
      refine tri_block ?_
      refine tri_reg mixed hcx ?_ _ _
      refine mv rfl ?_
      refine sb _ rfl rfl rfl ⟨rfl, by omega, by omega⟩ ?_
      refine asg rfl ?_
      refine ⟨by kernel_rfl, ?_⟩
      refine pn_blk ?_
      exact pn_back m (by first | omega | (dsimp only; omega)) ⟨by omega, by rw [← ht]; simp [tl, hc]⟩ (sl 0 rfl (sl 1 rfl (sl 4 rfl (sw 5 rfl (ci (by omega)) sn)))) (el 10 rfl en)
    · rw [getD_at] at hc
      refine tri_exit ?_
      repeat (first | refine pn_then ?_ | refine pn_oth (by decide) ?_)
      refine pn_ex ?_
      refine nx (sl 0 rfl (sl 1 rfl (sl 4 rfl (sl 5 rfl sn)))) (el 10 rfl en) ?_
      refine tri_seq ?_
      refine tri_seq ?_
      have hkk : lim N = m + 1 := by rw [← tl_lim hl hv, ← ht]; simp [tl, hc]
      refine tri_reg mixed hcx ?_ _ _
      refine mv rfl ?_
      refine ceq rfl rfl (decide_eq_false (by omega)) ?_
      refine ⟨by kernel_rfl, ?_⟩
      refine nx (sl 0 rfl (sl 1 rfl (sl 4 rfl (sl 5 rfl (sl 22 rfl sn))))) (el 10 rfl en) ?_
      refine tri_false rfl rfl ?_
      refine tri_skip ?_
      refine nx (sl 0 rfl (sl 1 rfl (sl 4 rfl (sl 5 rfl sn)))) (el 10 rfl en) ?_
      refine tri_seq ?_
      refine tri_reg mixed hcx ?_ _ _
      refine mv rfl ?_
      refine mkz (c := cU) (n := m + 1) 611 slLs rfl (by omega) (fun u => ⟨zvU32, zrU u⟩) (by decide) ?_
      refine asg rfl ?_
      refine ⟨by kernel_rfl, ?_⟩
      refine nx (sl 0 rfl (sl 1 rfl (sl 4 rfl (sl 6 rfl sn)))) (el 10 rfl (el 611 rfl en)) ?_
      refine tri_seq ?_
      refine tri_reg mixed hcx ?_ _ _
      refine mv rfl ?_
      refine mv rfl ?_
      refine cpy rfl rfl rfl slLs (by rw [List.length_replicate]; omega) ?_
      refine ⟨by kernel_rfl, ?_⟩
      refine nx (sl 0 rfl (sl 4 rfl (sl 6 rfl sn))) (el 10 rfl (el 611 rfl en)) ?_
      refine tri_seq ?_
      refine tri_fz 611 rfl ?_
      refine tri_rd 6 611 rfl rfl ?_
      refine tri_as 6 (Z := T.l cU (dig N)) rfl (.of (by rw [List.length_replicate, ← hkk, ← tl_lim hl hv, trim_dig hl hv])) ?_
      refine tri_reg mixed hcx ?_ _ _
      refine mv rfl ?_
      refine mv rfl ?_
      refine bu stZ rfl ?_
      refine st rfl rfl rfl tyZ rfl ?_
      refine ⟨by kernel_rfl, ?_⟩
      refine nx (sl 4 rfl sn) (el 10 rfl (el 611 rfl en)) ?_
      refine tri_ret ?_
      repeat (first | refine pn_thenr ?_ | refine pn_blkr ?_)
      exact ret1 hcx rfl (rv_cell (c' := cx) (n := 0) rfl rfl tyZ rfl) (made1 (by omega) (by omega)) en

theorem zi_Form {z : Int} {k : Nat} (hk : k ≤ 17592186044416) : Fn Tryz.prog 37 [T.Zi z k] [] [] [] (T.Z z k) := by
  refine fn_of Tryz.func37 rfl (by show 1 ≤ 8; decide) fun cx hcx => ?_
  refine tri_sub (sl 0 rfl sn) en ?_
  refine tri_zi 0 rfl fun s0 M0 x0 hl0 hv0 hb0 hz0 hq0 => ?_
  subst hz0; have hB0 := lim_val hl0 hv0 hb0
  refine tri_seq ?_
  refine tri_reg mixed hcx ?_ _ _
  refine bxs 10 rfl ?_
  refine nw 11 zeZ ?_
  refine ⟨by kernel_rfl, ?_⟩
  refine nx (sl 1 rfl (sl 2 rfl sn)) (el 10 rfl (el 11 rfl en)) ?_
  refine tri_seq ?_
  refine tri_reg mixed hcx ?_ _ _
  refine fa rfl fNeg 0 ?_
  refine ld rfl rfl tyB rfl ?_
  refine fa rfl fMag 1 ?_
  refine ld rfl rfl tyLs rfl ?_
  refine ca rfl (h := zi_made (by omega)) (hn := ?_)
  refine st rfl rfl rfl tyZ rfl ?_
  refine ⟨by kernel_rfl, ?_⟩
  refine nx (sl 2 rfl sn) (el 10 rfl (el 11 rfl en)) ?_
  refine tri_ret ?_
  repeat (first | refine pn_thenr ?_ | refine pn_blkr ?_)
  exact ret1 hcx rfl (rv_cell (c' := cx) (n := 0) rfl rfl tyZ rfl) (.refl _) en

theorem zi_Neg {z : Int} {k : Nat} (hk : k ≤ 17592186044416) : Fn Tryz.prog 62 [T.Zi z k] [] [] [] (T.Z (-z) k) := by
  refine fn_of Tryz.func62 rfl (by show 1 ≤ 9; decide) fun cx hcx => ?_
  refine tri_sub (sl 0 rfl sn) en ?_
  refine tri_zi 0 rfl fun s0 M0 x0 hl0 hv0 hb0 hz0 hq0 => ?_
  subst hz0; have hB0 := lim_val hl0 hv0 hb0
  refine tri_seq ?_
  refine tri_reg mixed hcx ?_ _ _
  refine bxs 10 rfl ?_
  refine nw 11 zeZ ?_
  refine ⟨by kernel_rfl, ?_⟩
  refine nx (sl 1 rfl (sl 2 rfl sn)) (el 10 rfl (el 11 rfl en)) ?_
  refine tri_seq ?_
  refine tri_reg mixed hcx ?_ _ _
  refine fa rfl fNeg 0 ?_
  refine ld rfl rfl tyB rfl ?_
  refine nt rfl _ rfl ?_
  refine fa rfl fMag 1 ?_
  refine ld rfl rfl tyLs rfl ?_
  refine ca rfl (h := zi_made (by omega)) (hn := ?_)
  refine st rfl rfl rfl tyZ rfl ?_
  refine ⟨by kernel_rfl, ?_⟩
  refine nx (sl 2 rfl sn) (el 10 rfl (el 11 rfl en)) ?_
  refine tri_ret ?_
  repeat (first | refine pn_thenr ?_ | refine pn_blkr ?_)
  exact ret1 hcx rfl (rv_cell (c' := cx) (n := 0) rfl rfl tyZ rfl) (z_cast (intv_not _ _) (Nat.le_refl _)) en

theorem sgi_zero {s : Bool} {M : Nat} (h : M = 0) : sg (intv s M) = 0 := by rw [sg_intv, if_pos h]
theorem sgi_neg {M : Nat} (h : M ≠ 0) : sg (intv true M) = -1 := by rw [sg_intv, if_neg h]; rfl
theorem sgi_pos {M : Nat} (h : M ≠ 0) : sg (intv false M) = 1 := by rw [sg_intv, if_neg h]; rfl
theorem nbits_zero_iff (M : Nat) : ((nbits M : Nat) : Int) = 0 ↔ M = 0 := ⟨fun h => by have := lt_nbits M; rw [show nbits M = 0 by omega] at this; omega, fun h => by subst h; rfl⟩

theorem zi_Sign {z : Int} {k : Nat} (hk : k ≤ 17592186044416) : Fn Tryz.prog 16 [T.Zi z k] [] [] [] (T.c (.int .i64 (sg z))) := by
  refine fn_of Tryz.func16 rfl (by show 1 ≤ 11; decide) fun cx hcx => ?_
  refine tri_sub (sl 0 rfl sn) en ?_
  refine tri_zi 0 rfl fun s0 M0 x0 hl0 hv0 hb0 hz0 hq0 => ?_
  subst hz0; have hB0 := lim_val hl0 hv0 hb0
  refine tri_seq ?_
  refine tri_reg mixed hcx ?_ _ _
  refine bxs 10 rfl ?_
  refine asg rfl ?_
  refine ⟨by kernel_rfl, ?_⟩
  refine nx (sl 1 rfl sn) (el 10 rfl en) ?_
  refine tri_seq ?_
  refine tri_block ?_
  refine tri_seq ?_
  refine tri_reg mixed hcx ?_ _ _
  refine fa rfl fMag 1 ?_
  refine ld rfl rfl tyLs rfl ?_
  refine ca rfl (h := nat_Bits (by omega)) (hn := ?_)
  refine ceq rfl rfl rfl ?_
  refine asg rfl ?_
  refine ⟨by kernel_rfl, ?_⟩
  refine nx (sl 1 rfl (sl 3 rfl sn)) (el 10 rfl en) ?_
  refine tri_if rfl (fun hc => ?_) (fun hc => ?_)
  · rw [nbits_zero_iff] at hc
    refine tri_seq ?_
    refine tri_reg mixed hcx ?_ _ _
    refine asg rfl ?_
    refine ⟨by kernel_rfl, ?_⟩
    refine nx (sl 2 rfl sn) (el 10 rfl en) ?_
    refine tri_ret ?_
    repeat (first | refine pn_thenr ?_ | refine pn_blkr ?_)
    exact ret1 hcx rfl (rv_tmp rfl) (ci (sgi_zero hc).symm) en
  · rw [nbits_zero_iff] at hc
    refine tri_seq ?_
    rcases Bool.eq_false_or_eq_true s0 with h0 | h0
    · subst h0
      refine tri_reg mixed hcx ?_ _ _
      refine fa rfl fNeg 0 ?_
      refine ld rfl rfl tyB rfl ?_
      refine asg rfl ?_
      refine ⟨by kernel_rfl, ?_⟩
      refine nx (sl 8 rfl sn) (el 10 rfl en) ?_
      refine tri_true rfl rfl ?_
      refine tri_seq ?_
      refine tri_reg mixed hcx ?_ _ _
      refine asg rfl ?_
      refine ⟨by kernel_rfl, ?_⟩
      refine nx (sl 2 rfl sn) (el 10 rfl en) ?_
      refine tri_ret ?_
      repeat (first | refine pn_thenr ?_ | refine pn_blkr ?_)
      exact ret1 hcx rfl (rv_tmp rfl) (ci (sgi_neg hc).symm) en
    · subst h0
      refine tri_reg mixed hcx ?_ _ _
      refine fa rfl fNeg 0 ?_
      refine ld rfl rfl tyB rfl ?_
      refine asg rfl ?_
      refine ⟨by kernel_rfl, ?_⟩
      refine nx (sl 8 rfl sn) (el 10 rfl en) ?_
      refine tri_false rfl rfl ?_
      refine tri_skip ?_
      refine pn_blk ?_
      refine nx sn (el 10 rfl en) ?_
      refine tri_seq ?_
      refine tri_reg mixed hcx ?_ _ _
      refine asg rfl ?_
      refine ⟨by kernel_rfl, ?_⟩
      refine nx (sl 2 rfl sn) (el 10 rfl en) ?_
      refine tri_ret ?_
      repeat (first | refine pn_thenr ?_ | refine pn_blkr ?_)
      exact ret1 hcx rfl (rv_tmp rfl) (ci (sgi_pos hc).symm) en

theorem intv_diff {s t : Bool} (h : ¬ s = t) {M N : Nat} (h1 : N ≤ M) : intv s (M - N) = intv s M + intv t N := by cases s <;> cases t <;> simp [intv] at h ⊢ <;> omega

theorem zi_Add {a b : Int} {k l : Nat} (hk : k ≤ 4398046511104) (hl : l ≤ 4398046511104) : Fn Tryz.prog 77 [T.Zi a k, T.Zi b l] [] [] [] (T.Z (a + b) (k + l + 1)) := by
  refine fn_of Tryz.func77 rfl (by show 2 ≤ 40; decide) fun cx hcx => ?_
  refine tri_sub (sl 0 rfl (sl 1 rfl sn)) en ?_
  refine tri_zi 0 rfl fun s0 M0 x0 hl0 hv0 hb0 hz0 hq0 => ?_
  subst hz0; have hB0 := lim_val hl0 hv0 hb0
  refine tri_zi 1 rfl fun s1 M1 x1 hl1 hv1 hb1 hz1 hq1 => ?_
  subst hz1; have hB1 := lim_val hl1 hv1 hb1
  have hzA := zl_add (z_bd (s := s0) hl0 hv0 hb0) (z_bd (s := s1) hl1 hv1 hb1)
  have hlA := lim_add2 hB0 hB1
  refine tri_seq ?_
  refine tri_reg mixed hcx ?_ _ _
  refine bxs 10 rfl ?_
  refine bxs 11 rfl ?_
  refine nw 12 zeZ ?_
  refine ⟨by kernel_rfl, ?_⟩
  refine nx (sl 2 rfl (sl 3 rfl (sl 4 rfl sn))) (el 10 rfl (el 11 rfl (el 12 rfl en))) ?_
  refine tri_seq ?_
  refine tri_seq ?_
  by_cases hs : s0 = s1
  · subst hs
    refine tri_reg mixed hcx ?_ _ _
    refine fa rfl fNeg 0 ?_
    refine ld rfl rfl tyB rfl ?_
    refine fa rfl fNeg 0 ?_
    refine ld rfl rfl tyB rfl ?_
    refine eqb rfl rfl (beq_self_eq_true _) ?_
    refine ⟨by kernel_rfl, ?_⟩
    refine nx (sl 2 rfl (sl 3 rfl (sl 4 rfl (sl 11 rfl sn)))) (el 10 rfl (el 11 rfl (el 12 rfl en))) ?_
    refine tri_true rfl rfl ?_
    refine tri_seq ?_
    refine tri_reg mixed hcx ?_ _ _
    refine fa rfl fNeg 0 ?_
    refine ld rfl rfl tyB rfl ?_
    refine fa rfl fMag 1 ?_
    refine ld rfl rfl tyLs rfl ?_
    refine fa rfl fMag 1 ?_
    refine ld rfl rfl tyLs rfl ?_
    refine ca rfl (h := nat_Add (by omega) (by omega)) (hn := ?_)
    refine ca rfl (h := zi_made (by omega)) (hn := ?_)
    refine st rfl rfl rfl tyZ rfl ?_
    refine ⟨by kernel_rfl, ?_⟩
    refine nx (sl 4 rfl sn) (el 10 rfl (el 11 rfl (el 12 rfl en))) ?_
    refine tri_ret ?_
    repeat (first | refine pn_thenr ?_ | refine pn_blkr ?_)
    exact ret1 hcx rfl (rv_cell (c' := cx) (n := 0) rfl rfl tyZ rfl) ((z_cast (intv_add _ _ _).symm (Nat.le_refl _)).trans (z_as hzA)) en
  · refine tri_reg mixed hcx ?_ _ _
    refine fa rfl fNeg 0 ?_
    refine ld rfl rfl tyB rfl ?_
    refine fa rfl fNeg 0 ?_
    refine ld rfl rfl tyB rfl ?_
    refine eqb rfl rfl (beq_false_of_ne hs) ?_
    refine ⟨by kernel_rfl, ?_⟩
    refine nx (sl 2 rfl (sl 3 rfl (sl 4 rfl (sl 11 rfl sn)))) (el 10 rfl (el 11 rfl (el 12 rfl en))) ?_
    refine tri_false rfl rfl ?_
    refine tri_skip ?_
    refine nx (sl 2 rfl (sl 3 rfl (sl 4 rfl sn))) (el 10 rfl (el 11 rfl (el 12 rfl en))) ?_
    refine tri_seq ?_
    refine tri_seq ?_
    refine tri_reg mixed hcx ?_ _ _
    refine fa rfl fMag 1 ?_
    refine ld rfl rfl tyLs rfl ?_
    refine fa rfl fMag 1 ?_
    refine ld rfl rfl tyLs rfl ?_
    refine ca rfl (h := nat_Cmp (by omega) (by omega)) (hn := ?_)
    refine clt rfl rfl rfl ?_
    refine ⟨by kernel_rfl, ?_⟩
    refine nx (sl 2 rfl (sl 3 rfl (sl 4 rfl (sl 25 rfl sn)))) (el 10 rfl (el 11 rfl (el 12 rfl en))) ?_
    refine tri_if rfl (fun hc => ?_) (fun hc => ?_)
    · have hge := sgnc_neg hc; have hlD : lim (M1 - M0) ≤ l := Nat.le_trans (lim_mono (Nat.sub_le _ _)) hB1
      refine tri_reg mixed hcx ?_ _ _
      refine ld rfl rfl tyZ rfl ?_
      refine ld rfl rfl tyZ rfl ?_
      refine sts rfl rfl rfl tyZ rfl ?_
      refine sts rfl rfl rfl tyZ rfl ?_
      refine ⟨by kernel_rfl, ?_⟩
      refine nx (sl 2 rfl (sl 3 rfl (sl 4 rfl sn))) (el 10 rfl (el 11 rfl (el 12 rfl en))) ?_
      refine tri_seq ?_
      refine tri_reg mixed hcx ?_ _ _
      refine fa rfl fMag 1 ?_
      refine ld rfl rfl tyLs rfl ?_
      refine fa rfl fMag 1 ?_
      refine ld rfl rfl tyLs rfl ?_
      refine ca rfl (h := nat_Sub (by omega) (by omega) (by omega)) (hn := ?_)
      refine mv rfl ?_
      refine ex rfl rfl ?_
      refine ex rfl rfl ?_
      refine asg rfl ?_
      refine asg rfl ?_
      refine ⟨by kernel_rfl, ?_⟩
      refine nx (sl 2 rfl (sl 4 rfl (sl 5 rfl sn))) (el 10 rfl (el 11 rfl (el 12 rfl en))) ?_
      refine tri_seq ?_
      refine tri_reg mixed hcx ?_ _ _
      refine fa rfl fNeg 0 ?_
      refine ld rfl rfl tyB rfl ?_
      refine mv rfl ?_
      refine ca rfl (h := zi_made (by omega)) (hn := ?_)
      refine st rfl rfl rfl tyZ rfl ?_
      refine ⟨by kernel_rfl, ?_⟩
      refine nx (sl 4 rfl sn) (el 10 rfl (el 11 rfl (el 12 rfl en))) ?_
      refine tri_ret ?_
      repeat (first | refine pn_thenr ?_ | refine pn_blkr ?_)
      exact ret1 hcx rfl (rv_cell (c' := cx) (n := 0) rfl rfl tyZ rfl) ((z_cast ((intv_diff (fun h => hs h.symm) (by omega)).trans (Int.add_comm _ _)) (Nat.le_refl _)).trans (z_as hzA)) en
    · have hge := sgnc_nlt hc; have hlD : lim (M0 - M1) ≤ k := Nat.le_trans (lim_mono (Nat.sub_le _ _)) hB0
      refine tri_skip ?_
      refine nx (sl 2 rfl (sl 3 rfl (sl 4 rfl sn))) (el 10 rfl (el 11 rfl (el 12 rfl en))) ?_
      refine tri_seq ?_
      refine tri_reg mixed hcx ?_ _ _
      refine fa rfl fMag 1 ?_
      refine ld rfl rfl tyLs rfl ?_
      refine fa rfl fMag 1 ?_
      refine ld rfl rfl tyLs rfl ?_
      refine ca rfl (h := nat_Sub (by omega) (by omega) (by omega)) (hn := ?_)
      refine mv rfl ?_
      refine ex rfl rfl ?_
      refine ex rfl rfl ?_
      refine asg rfl ?_
      refine asg rfl ?_
      refine ⟨by kernel_rfl, ?_⟩
      refine nx (sl 2 rfl (sl 4 rfl (sl 5 rfl sn))) (el 10 rfl (el 11 rfl (el 12 rfl en))) ?_
      refine tri_seq ?_
      refine tri_reg mixed hcx ?_ _ _
      refine fa rfl fNeg 0 ?_
      refine ld rfl rfl tyB rfl ?_
      refine mv rfl ?_
      refine ca rfl (h := zi_made (by omega)) (hn := ?_)
      refine st rfl rfl rfl tyZ rfl ?_
      refine ⟨by kernel_rfl, ?_⟩
      refine nx (sl 4 rfl sn) (el 10 rfl (el 11 rfl (el 12 rfl en))) ?_
      refine tri_ret ?_
      repeat (first | refine pn_thenr ?_ | refine pn_blkr ?_)
      exact ret1 hcx rfl (rv_cell (c' := cx) (n := 0) rfl rfl tyZ rfl) ((z_cast (intv_diff hs hge) (Nat.le_refl _)).trans (z_as hzA)) en

theorem zi_Sub {a b : Int} {k l : Nat} (hk : k ≤ 4398046511104) (hl : l ≤ 4398046511104) : Fn Tryz.prog 93 [T.Zi a k, T.Zi b l] [] [] [] (T.Z (a - b) (k + l + 1)) := by
  refine fn_of Tryz.func93 rfl (by show 2 ≤ 9; decide) fun cx hcx => ?_
  refine tri_sub (sl 0 rfl (sl 1 rfl sn)) en ?_
  refine tri_seq ?_
  refine tri_reg mixed hcx ?_ _ _
  refine bx 10 rfl ?_
  refine bx 11 rfl ?_
  refine nw 12 zeZ ?_
  refine ⟨by kernel_rfl, ?_⟩
  refine nx (sl 2 rfl (sl 3 rfl (sl 4 rfl sn))) (el 10 rfl (el 11 rfl (el 12 rfl en))) ?_
  refine tri_seq ?_
  refine tri_reg mixed hcx ?_ _ _
  refine ld rfl rfl tyZ rfl ?_
  refine ld rfl rfl tyZ rfl ?_
  refine ca rfl (h := zi_Neg (by omega)) (hn := ?_)
  refine ca rfl (h := zi_Add (by omega) (by omega)) (hn := ?_)
  refine st rfl rfl rfl tyZ rfl ?_
  refine ⟨by kernel_rfl, ?_⟩
  refine nx (sl 4 rfl sn) (el 10 rfl (el 11 rfl (el 12 rfl en))) ?_
  refine tri_ret ?_
  repeat (first | refine pn_thenr ?_ | refine pn_blkr ?_)
  exact ret1 hcx rfl (rv_cell (c' := cx) (n := 0) rfl rfl tyZ rfl) (z_cast Int.sub_eq_add_neg.symm (Nat.le_refl _)) en

theorem zi_Mul {a b : Int} {k l : Nat} (hk : k ≤ 8796093022208) (hl : l ≤ 8796093022208) : Fn Tryz.prog 42 [T.Zi a k, T.Zi b l] [] [] [] (T.Z (a * b) (k + l)) := by
  refine fn_of Tryz.func42 rfl (by show 2 ≤ 16; decide) fun cx hcx => ?_
  refine tri_sub (sl 0 rfl (sl 1 rfl sn)) en ?_
  refine tri_zi 0 rfl fun s0 M0 x0 hl0 hv0 hb0 hz0 hq0 => ?_
  subst hz0; have hB0 := lim_val hl0 hv0 hb0
  refine tri_zi 1 rfl fun s1 M1 x1 hl1 hv1 hb1 hz1 hq1 => ?_
  subst hz1; have hB1 := lim_val hl1 hv1 hb1
  have hzA := zl_mul (z_bd (s := s0) hl0 hv0 hb0) (z_bd (s := s1) hl1 hv1 hb1)
  have hlA := Nat.le_trans (lim_mul M0 M1) (Nat.add_le_add hB0 hB1)
  refine tri_seq ?_
  refine tri_reg mixed hcx ?_ _ _
  refine bxs 10 rfl ?_
  refine bxs 11 rfl ?_
  refine nw 12 zeZ ?_
  refine ⟨by kernel_rfl, ?_⟩
  refine nx (sl 2 rfl (sl 3 rfl (sl 4 rfl sn))) (el 10 rfl (el 11 rfl (el 12 rfl en))) ?_
  refine tri_seq ?_
  refine tri_reg mixed hcx ?_ _ _
  refine fa rfl fNeg 0 ?_
  refine ld rfl rfl tyB rfl ?_
  refine fa rfl fNeg 0 ?_
  refine ld rfl rfl tyB rfl ?_
  refine neb rfl rfl rfl ?_
  refine fa rfl fMag 1 ?_
  refine ld rfl rfl tyLs rfl ?_
  refine fa rfl fMag 1 ?_
  refine ld rfl rfl tyLs rfl ?_
  refine ca rfl (h := nat_Mul (by omega) (by omega)) (hn := ?_)
  refine ca rfl (h := zi_made (by omega)) (hn := ?_)
  refine st rfl rfl rfl tyZ rfl ?_
  refine ⟨by kernel_rfl, ?_⟩
  refine nx (sl 4 rfl sn) (el 10 rfl (el 11 rfl (el 12 rfl en))) ?_
  refine tri_ret ?_
  repeat (first | refine pn_thenr ?_ | refine pn_blkr ?_)
  exact ret1 hcx rfl (rv_cell (c' := cx) (n := 0) rfl rfl tyZ rfl) ((z_cast (intv_mul _ _ _ _).symm (Nat.le_refl _)).trans (z_as hzA)) en

theorem zi_Gcd {a b : Int} {k l : Nat} (hk : k ≤ 1099511627776) (hl : l ≤ 1099511627776) : Fn Tryz.prog 63 [T.Zi a k, T.Zi b l] [] [] [] (T.Z ((Int.gcd a b : Nat) : Int) (max k l)) := by
  refine fn_of Tryz.func63 rfl (by show 2 ≤ 11; decide) fun cx hcx => ?_
  refine tri_sub (sl 0 rfl (sl 1 rfl sn)) en ?_
  refine tri_zi 0 rfl fun s0 M0 x0 hl0 hv0 hb0 hz0 hq0 => ?_
  subst hz0; have hB0 := lim_val hl0 hv0 hb0
  refine tri_zi 1 rfl fun s1 M1 x1 hl1 hv1 hb1 hz1 hq1 => ?_
  subst hz1; have hB1 := lim_val hl1 hv1 hb1
  have hlA := lim_gcd hB0 hB1; have hmx : max k l ≤ 1099511627776 := Nat.max_le.2 ⟨hk, hl⟩
  refine tri_seq ?_
  refine tri_reg mixed hcx ?_ _ _
  refine bxs 10 rfl ?_
  refine bxs 11 rfl ?_
  refine nw 12 zeZ ?_
  refine ⟨by kernel_rfl, ?_⟩
  refine nx (sl 2 rfl (sl 3 rfl (sl 4 rfl sn))) (el 10 rfl (el 11 rfl (el 12 rfl en))) ?_
  refine tri_seq ?_
  refine tri_reg mixed hcx ?_ _ _
  refine fa rfl fMag 1 ?_
  refine ld rfl rfl tyLs rfl ?_
  refine fa rfl fMag 1 ?_
  refine ld rfl rfl tyLs rfl ?_
  refine ca rfl (h := nat_Gcd (by omega) (by omega)) (hn := ?_)
  refine ca rfl (h := zi_made (by omega)) (hn := ?_)
  refine st rfl rfl rfl tyZ rfl ?_
  refine ⟨by kernel_rfl, ?_⟩
  refine nx (sl 4 rfl sn) (el 10 rfl (el 11 rfl (el 12 rfl en))) ?_
  refine tri_ret ?_
  repeat (first | refine pn_thenr ?_ | refine pn_blkr ?_)
  exact ret1 hcx rfl (rv_cell (c' := cx) (n := 0) rfl rfl tyZ rfl) ((z_cast (by rw [Int.gcd, intv_natAbs, intv_natAbs]; rfl) (Nat.le_refl _)).trans (z_as (by rw [Int.gcd, intv_natAbs, intv_natAbs]; exact hlA))) en

theorem cmp_mid {s t : Bool} {M N : Nat} (h1 : ¬ sg (intv s M) < sg (intv t N)) (h2 : ¬ sg (intv t N) < sg (intv s M)) : sg (intv s M) * sgnc (M : Int) N = sgnc (intv s M) (intv t N) := by
  have := cmp_same h1 h2
  rwa [intv_natAbs, intv_natAbs] at this

theorem zi_Compare {a b : Int} {k l : Nat} (hk : k ≤ 17592186044416) (hl : l ≤ 17592186044416) : Fn Tryz.prog 41 [T.Zi a k, T.Zi b l] [] [] [] (T.c (.int .i64 (sgnc a b))) := by
  refine fn_of Tryz.func41 rfl (by show 2 ≤ 26; decide) fun cx hcx => ?_
  refine tri_sub (sl 0 rfl (sl 1 rfl sn)) en ?_
  refine tri_zi 0 rfl fun s0 M0 x0 hl0 hv0 hb0 hz0 hq0 => ?_
  subst hz0; have hB0 := lim_val hl0 hv0 hb0
  refine tri_zi 1 rfl fun s1 M1 x1 hl1 hv1 hb1 hz1 hq1 => ?_
  subst hz1; have hB1 := lim_val hl1 hv1 hb1
  have hg0 := sg_bd (intv s0 M0); have hg1 := sg_bd (intv s1 M1); have hg2 := sgnc_bd (M0 : Int) M1
  refine tri_seq ?_
  refine tri_reg mixed hcx ?_ _ _
  refine bxs 10 rfl ?_
  refine bxs 11 rfl ?_
  refine asg rfl ?_
  refine ⟨by kernel_rfl, ?_⟩
  refine nx (sl 2 rfl (sl 3 rfl sn)) (el 10 rfl (el 11 rfl en)) ?_
  refine tri_seq ?_
  refine tri_reg mixed hcx ?_ _ _
  refine ld rfl rfl tyZ rfl ?_
  refine ca rfl (h := zi_Sign (by omega)) (hn := ?_)
  refine ld rfl rfl tyZ rfl ?_
  refine ca rfl (h := zi_Sign (by omega)) (hn := ?_)
  refine asg rfl ?_
  refine asg rfl ?_
  refine ⟨by kernel_rfl, ?_⟩
  refine nx (sl 2 rfl (sl 3 rfl (sl 5 rfl (sl 6 rfl sn)))) (el 10 rfl (el 11 rfl en)) ?_
  refine tri_seq ?_
  refine tri_block ?_
  refine tri_seq ?_
  refine tri_reg mixed hcx ?_ _ _
  refine mv rfl ?_
  refine mv rfl ?_
  refine clt rfl rfl rfl ?_
  refine asg rfl ?_
  refine ⟨by kernel_rfl, ?_⟩
  refine nx (sl 2 rfl (sl 3 rfl (sl 5 rfl (sl 6 rfl (sl 11 rfl sn))))) (el 10 rfl (el 11 rfl en)) ?_
  refine tri_if rfl (fun hc => ?_) (fun hc => ?_)
  · refine tri_seq ?_
    refine tri_reg mixed hcx ?_ _ _
    refine asg rfl ?_
    refine ⟨by kernel_rfl, ?_⟩
    refine nx (sl 4 rfl sn) (el 10 rfl (el 11 rfl en)) ?_
    refine tri_ret ?_
    repeat (first | refine pn_thenr ?_ | refine pn_blkr ?_)
    exact ret1 hcx rfl (rv_tmp rfl) (ci (Nml.cmp_lt hc).symm) en
  · refine tri_seq ?_
    refine tri_reg mixed hcx ?_ _ _
    refine mv rfl ?_
    refine mv rfl ?_
    refine cgt rfl rfl rfl ?_
    refine asg rfl ?_
    refine ⟨by kernel_rfl, ?_⟩
    refine nx (sl 2 rfl (sl 3 rfl (sl 5 rfl (sl 15 rfl sn)))) (el 10 rfl (el 11 rfl en)) ?_
    refine tri_if rfl (fun hd => ?_) (fun hd => ?_)
    · refine tri_seq ?_
      refine tri_reg mixed hcx ?_ _ _
      refine asg rfl ?_
      refine ⟨by kernel_rfl, ?_⟩
      refine nx (sl 4 rfl sn) (el 10 rfl (el 11 rfl en)) ?_
      refine tri_ret ?_
      repeat (first | refine pn_thenr ?_ | refine pn_blkr ?_)
      exact ret1 hcx rfl (rv_tmp rfl) (ci (cmp_gt hd).symm) en
    · refine tri_skip ?_
      refine pn_blk ?_
      refine nx (sl 2 rfl (sl 3 rfl (sl 5 rfl sn))) (el 10 rfl (el 11 rfl en)) ?_
      refine tri_seq ?_
      have hm := cmp_mid hc hd; have hg3 := sgnc_bd (intv s0 M0) (intv s1 M1)
      refine tri_reg mixed hcx ?_ _ _
      refine mv rfl ?_
      refine fa rfl fMag 1 ?_
      refine ld rfl rfl tyLs rfl ?_
      refine fa rfl fMag 1 ?_
      refine ld rfl rfl tyLs rfl ?_
      refine ca rfl (h := nat_Cmp (by omega) (by omega)) (hn := ?_)
      refine ml (sgnc (intv s0 M0) (intv s1 M1)) rfl rfl rfl ⟨hm, by omega, by omega⟩ ?_
      refine asg rfl ?_
      refine ⟨by kernel_rfl, ?_⟩
      refine nx (sl 4 rfl sn) (el 10 rfl (el 11 rfl en)) ?_
      refine tri_ret ?_
      repeat (first | refine pn_thenr ?_ | refine pn_blkr ?_)
      exact ret1 hcx rfl (rv_tmp rfl) (.refl _) en

theorem two_limbs {u : Int} {N : Nat} (h : u = N) (h1 : u < 18446744073709551616) : Lim [u % 4294967296, u / 4294967296] ∧ val [u % 4294967296, u / 4294967296] = N :=
  ⟨Lim.cons (by omega) (by omega) (Lim.one (by omega) (by omega)), by rw [val_cons, val_one]; omega⟩
theorem intv_abs_neg {n : Int} (h : n < 0) : intv true n.natAbs = n := by show -((n.natAbs : Nat) : Int) = n; omega
theorem intv_abs_pos {n : Int} (h : ¬ n < 0) : intv false n.natAbs = n := by show ((n.natAbs : Nat) : Int) = n; omega
theorem zi_Of {n : Int} (h0 : -9223372036854775808 ≤ n) (h1 : n < 9223372036854775808) : Fn Tryz.prog 30 [T.c (.int .i64 n)] [] [] [] (T.Z n 2) := by
  refine fn_of Tryz.func30 rfl (by show 1 ≤ 19; decide) fun cx hcx => ?_
  refine tri_sub (sl 0 rfl sn) en ?_
  refine tri_seq ?_
  refine tri_reg mixed hcx ?_ _ _
  refine nw 10 zeZ ?_
  refine ⟨by kernel_rfl, ?_⟩
  refine nx (sl 0 rfl (sl 2 rfl sn)) (el 10 rfl en) ?_
  refine tri_seq ?_
  refine tri_reg mixed hcx ?_ _ _
  refine mv rfl ?_
  refine cvw (n % 18446744073709551616) rfl cvI64U64 rfl ?_
  refine asg rfl ?_
  refine ⟨by kernel_rfl, ?_⟩
  refine nx (sl 0 rfl (sl 2 rfl (sl 3 rfl sn))) (el 10 rfl en) ?_
  refine tri_seq ?_
  refine tri_seq ?_
  refine tri_reg mixed hcx ?_ _ _
  refine mv rfl ?_
  refine clt rfl rfl rfl ?_
  refine ⟨by kernel_rfl, ?_⟩
  refine nx (sl 0 rfl (sl 2 rfl (sl 3 rfl (sl 7 rfl sn)))) (el 10 rfl en) ?_
  refine tri_if rfl (fun hc => ?_) (fun hc => ?_)
  · refine tri_reg mixed hcx ?_ _ _
    refine mv rfl ?_
    refine ngm (-n) rfl (by omega) ?_
    refine asg rfl ?_
    refine ⟨by kernel_rfl, ?_⟩
    refine nx (sl 0 rfl (sl 2 rfl (sl 3 rfl sn))) (el 10 rfl en) ?_
    refine tri_seq ?_
    obtain ⟨hL1, hL2⟩ := two_limbs (u := -n) (N := n.natAbs) (by omega) (by omega); have hL3 : [-n % 4294967296, -n / 4294967296].length ≤ 2 := Nat.le_refl _
    refine tri_reg mixed hcx ?_ _ _
    refine mv rfl ?_
    refine clt rfl rfl (decide_eq_true (by omega)) ?_
    refine mv rfl ?_
    refine cvm _ rfl cvU64U32 rfl ?_
    refine mv rfl ?_
    refine shR (s := 32) (-n / 4294967296) rfl rfl rfl ⟨by omega, by omega, by decide⟩ ?_
    refine cvm (-n / 4294967296) rfl cvU64U32 (by omega) ?_
    refine bl2 rfl rfl slLs zvU32 ?_
    refine ca rfl (h := zi_made (by omega)) (hn := ?_)
    refine st rfl rfl rfl tyZ rfl ?_
    refine ⟨by kernel_rfl, ?_⟩
    refine nx (sl 2 rfl sn) (el 10 rfl en) ?_
    refine tri_ret ?_
    repeat (first | refine pn_thenr ?_ | refine pn_blkr ?_)
    exact ret1 hcx rfl (rv_cell (c' := cx) (n := 0) rfl rfl tyZ rfl) (z_cast (intv_abs_neg hc) (Nat.le_refl _)) en
  · refine tri_as 3 (Z := T.c (.int .u64 n)) rfl (ci (by omega)) ?_
    refine tri_skip ?_
    refine nx (sl 0 rfl (sl 2 rfl (sl 3 rfl sn))) (el 10 rfl en) ?_
    refine tri_seq ?_
    obtain ⟨hL1, hL2⟩ := two_limbs (u := n) (N := n.natAbs) (by omega) (by omega); have hL3 : [n % 4294967296, n / 4294967296].length ≤ 2 := Nat.le_refl _
    refine tri_reg mixed hcx ?_ _ _
    refine mv rfl ?_
    refine clt rfl rfl (decide_eq_false (by omega)) ?_
    refine mv rfl ?_
    refine cvm _ rfl cvU64U32 rfl ?_
    refine mv rfl ?_
    refine shR (s := 32) (n / 4294967296) rfl rfl rfl ⟨by omega, by omega, by decide⟩ ?_
    refine cvm (n / 4294967296) rfl cvU64U32 (by omega) ?_
    refine bl2 rfl rfl slLs zvU32 ?_
    refine ca rfl (h := zi_made (by omega)) (hn := ?_)
    refine st rfl rfl rfl tyZ rfl ?_
    refine ⟨by kernel_rfl, ?_⟩
    refine nx (sl 2 rfl sn) (el 10 rfl en) ?_
    refine tri_ret ?_
    repeat (first | refine pn_thenr ?_ | refine pn_blkr ?_)
    exact ret1 hcx rfl (rv_cell (c' := cx) (n := 0) rfl rfl tyZ rfl) (z_cast (intv_abs_pos hc) (Nat.le_refl _)) en

theorem fl_bd {s1 s2 : Bool} {M N : Nat} (hN : 0 < N) (h : intv s1 (M % N) ≠ 0 ∧ sg (intv s1 (M % N)) ≠ sg (intv s2 N)) : (intv s1 (M % N) + intv s2 N).natAbs ≤ N := by
  have l := Nat.mod_lt M hN
  rw [sg_intv, sg_intv] at h
  generalize M % N = r at *
  cases s1 <;> cases s2 <;> simp [intv] at h ⊢ <;> omega
theorem intv_ne {s : Bool} {M : Nat} (h : intv s M ≠ 0) : 0 < M := Nat.pos_of_ne_zero fun e => h (by subst e; exact intv_zero s)

theorem zi_Floor {a b : Int} {k l : Nat} (hb : b ≠ 0) (hk : k ≤ 1099511627776) (hl : l ≤ 1099511627776) : Fn Tryz.prog 82 [T.Zi a k, T.Zi b l] [] [] [] (T.tup [T.Z (Int.fdiv a b) (k + 3), T.Z (Int.fmod a b) l, T.c (.int .i64 0)]) := by
  refine fn_of Tryz.func82 rfl (by show 2 ≤ 54; decide) fun cx hcx => ?_
  refine tri_sub (sl 0 rfl (sl 1 rfl sn)) en ?_
  refine tri_zi 0 rfl fun s0 M0 x0 hl0 hv0 hb0 hz0 hq0 => ?_
  subst hz0; have hB0 := lim_val hl0 hv0 hb0
  refine tri_zi 1 rfl fun s1 M1 x1 hl1 hv1 hb1 hz1 hq1 => ?_
  subst hz1; have hB1 := lim_val hl1 hv1 hb1
  have hM1 := intv_ne hb
  have hlq : lim (M0 / M1) ≤ k := Nat.le_trans (lim_mono (Nat.div_le_self _ _)) hB0; have hlr : lim (M0 % M1) ≤ l := Nat.le_trans (lim_mono (Nat.le_of_lt (Nat.mod_lt _ hM1))) hB1
  refine tri_seq ?_
  refine tri_reg mixed hcx ?_ _ _
  refine bxs 10 rfl ?_
  refine bxs 11 rfl ?_
  refine nw 12 zeZ ?_
  refine nw 13 zeZ ?_
  refine asg rfl ?_
  refine ⟨by kernel_rfl, ?_⟩
  refine nx (sl 2 rfl (sl 3 rfl (sl 4 rfl (sl 5 rfl sn)))) (el 10 rfl (el 11 rfl (el 12 rfl (el 13 rfl en)))) ?_
  refine tri_seq ?_
  refine tri_reg mixed hcx ?_ _ _
  refine fa rfl fMag 1 ?_
  refine ld rfl rfl tyLs rfl ?_
  refine fa rfl fMag 1 ?_
  refine ld rfl rfl tyLs rfl ?_
  refine ca rfl (h := nat_Div (by omega) (by omega) (by omega)) (hn := ?_)
  refine mv rfl ?_
  refine ex rfl rfl ?_
  refine ex rfl rfl ?_
  refine ex rfl rfl ?_
  refine asg rfl ?_
  refine asg rfl ?_
  refine asg rfl ?_
  refine ⟨by kernel_rfl, ?_⟩
  refine nx (sl 2 rfl (sl 3 rfl (sl 4 rfl (sl 5 rfl (sl 7 rfl (sl 8 rfl (sl 9 rfl sn))))))) (el 10 rfl (el 11 rfl (el 12 rfl (el 13 rfl en)))) ?_
  refine tri_seq ?_
  refine tri_seq ?_
  refine tri_reg mixed hcx ?_ _ _
  refine mv rfl ?_
  refine cne rfl rfl (decide_eq_false (by omega)) ?_
  refine ⟨by kernel_rfl, ?_⟩
  refine nx (sl 2 rfl (sl 3 rfl (sl 4 rfl (sl 5 rfl (sl 7 rfl (sl 8 rfl (sl 22 rfl sn))))))) (el 10 rfl (el 11 rfl (el 12 rfl (el 13 rfl en)))) ?_
  refine tri_false rfl rfl ?_
  refine tri_skip ?_
  refine nx (sl 2 rfl (sl 3 rfl (sl 4 rfl (sl 5 rfl (sl 7 rfl (sl 8 rfl sn)))))) (el 10 rfl (el 11 rfl (el 12 rfl (el 13 rfl en)))) ?_
  refine tri_seq ?_
  refine tri_reg mixed hcx ?_ _ _
  refine fa rfl fNeg 0 ?_
  refine ld rfl rfl tyB rfl ?_
  refine fa rfl fNeg 0 ?_
  refine ld rfl rfl tyB rfl ?_
  refine neb rfl rfl rfl ?_
  refine mv rfl ?_
  refine ca rfl (h := zi_made (by omega)) (hn := ?_)
  refine fa rfl fNeg 0 ?_
  refine ld rfl rfl tyB rfl ?_
  refine mv rfl ?_
  refine ca rfl (h := zi_made (by omega)) (hn := ?_)
  refine nw 421 zeZ ?_
  refine nw 422 zeZ ?_
  refine st rfl rfl rfl tyZ rfl ?_
  refine st rfl rfl rfl tyZ rfl ?_
  refine ⟨by kernel_rfl, ?_⟩
  refine nx (sl 3 rfl (sl 4 rfl (sl 5 rfl (sl 10 rfl (sl 11 rfl sn))))) (el 10 rfl (el 11 rfl (el 12 rfl (el 13 rfl (el 421 rfl (el 422 rfl en)))))) ?_
  refine tri_seq ?_
  refine tri_seq ?_
  by_cases h0 : sg (intv s0 (M0 % M1)) = 0
  · have hf := floor_no s0 s1 M0 M1 hM1 (fun h => h.1 (sg_eq_zero.1 h0))
    refine tri_reg mixed hcx ?_ _ _
    refine ld rfl rfl tyZ rfl ?_
    refine ca rfl (h := zi_Sign (by omega)) (hn := ?_)
    refine cne rfl rfl (decide_eq_false (by omega)) ?_
    refine mv rfl ?_
    refine j_off rfl rfl rfl rfl ?_
    refine j_off rfl rfl rfl rfl ?_
    refine j_off rfl rfl rfl rfl ?_
    refine j_off rfl rfl rfl rfl ?_
    refine j_off rfl rfl rfl rfl ?_
    refine pk rfl rfl ?_
    refine ⟨by kernel_rfl, ?_⟩
    refine nx (sl 3 rfl (sl 4 rfl (sl 5 rfl (sl 10 rfl (sl 11 rfl (sl 45 rfl sn)))))) (el 10 rfl (el 11 rfl (el 12 rfl (el 13 rfl (el 421 rfl (el 422 rfl en)))))) ?_
    refine tri_false rfl rfl ?_
    refine tri_skip ?_
    refine nx (sl 4 rfl (sl 5 rfl (sl 10 rfl (sl 11 rfl sn)))) (el 10 rfl (el 11 rfl (el 12 rfl (el 13 rfl (el 421 rfl (el 422 rfl en)))))) ?_
    refine tri_seq ?_
    refine tri_reg mixed hcx ?_ _ _
    refine ld rfl rfl tyZ rfl ?_
    refine ld rfl rfl tyZ rfl ?_
    refine st rfl rfl rfl tyZ rfl ?_
    refine st rfl rfl rfl tyZ rfl ?_
    refine asg rfl ?_
    refine ⟨by kernel_rfl, ?_⟩
    refine nx (sl 4 rfl (sl 5 rfl (sl 6 rfl sn))) (el 10 rfl (el 11 rfl (el 12 rfl (el 13 rfl (el 421 rfl (el 422 rfl en)))))) ?_
    refine tri_ret ?_
    repeat (first | refine pn_thenr ?_ | refine pn_blkr ?_)
    exact ret3 hcx rfl (rv_cell (c' := cx) (n := 0) rfl rfl tyZ rfl) (rv_cell (c' := cx) (n := 0) rfl rfl tyZ rfl) (rv_tmp rfl) (tup_le ⟨z_cast hf.1.symm (by omega), z_cast hf.2.symm hlr, .refl _, trivial⟩) en
  · refine tri_reg mixed hcx ?_ _ _
    refine ld rfl rfl tyZ rfl ?_
    refine ca rfl (h := zi_Sign (by omega)) (hn := ?_)
    refine cne rfl rfl (decide_eq_true (by omega)) ?_
    refine mv rfl ?_
    refine ld rfl rfl tyZ rfl ?_ (hg := gd1)
    refine ca rfl (h := zi_Sign (by omega)) (hn := ?_) (hg := gd1)
    refine ld rfl rfl tyZ rfl ?_ (hg := gd1)
    refine ca rfl (h := zi_Sign (by omega)) (hn := ?_) (hg := gd1)
    refine cne rfl rfl rfl ?_ (hg := gd1)
    refine pk rfl rfl ?_
    refine ⟨by kernel_rfl, ?_⟩
    refine nx (sl 3 rfl (sl 4 rfl (sl 5 rfl (sl 10 rfl (sl 11 rfl (sl 45 rfl sn)))))) (el 10 rfl (el 11 rfl (el 12 rfl (el 13 rfl (el 421 rfl (el 422 rfl en)))))) ?_
    refine tri_if rfl (fun hc => ?_) (fun hc => ?_)
    · have hf := floor_yes s0 s1 M0 M1 hM1 ⟨fun h => h0 (sg_eq_zero.2 h), hc⟩; have hfb := fl_bd hM1 ⟨fun h => h0 (sg_eq_zero.2 h), hc⟩
      refine tri_reg mixed hcx ?_ _ _
      refine ld rfl rfl tyZ rfl ?_
      refine ca rfl (h := zi_Of (by omega) (by omega)) (hn := ?_)
      refine ca rfl (h := zi_Sub (by omega) (by omega)) (hn := ?_)
      refine ld rfl rfl tyZ rfl ?_
      refine ld rfl rfl tyZ rfl ?_
      refine ca rfl (h := zi_Add (by omega) (by omega)) (hn := ?_)
      refine st rfl rfl rfl tyZ rfl ?_
      refine st rfl rfl rfl tyZ rfl ?_
      refine ⟨by kernel_rfl, ?_⟩
      refine nx (sl 4 rfl (sl 5 rfl (sl 10 rfl (sl 11 rfl sn)))) (el 10 rfl (el 11 rfl (el 12 rfl (el 13 rfl (el 421 rfl (el 422 rfl en)))))) ?_
      refine tri_seq ?_
      refine tri_reg mixed hcx ?_ _ _
      refine ld rfl rfl tyZ rfl ?_
      refine ld rfl rfl tyZ rfl ?_
      refine st rfl rfl rfl tyZ rfl ?_
      refine st rfl rfl rfl tyZ rfl ?_
      refine asg rfl ?_
      refine ⟨by kernel_rfl, ?_⟩
      refine nx (sl 4 rfl (sl 5 rfl (sl 6 rfl sn))) (el 10 rfl (el 11 rfl (el 12 rfl (el 13 rfl (el 421 rfl (el 422 rfl en)))))) ?_
      refine tri_ret ?_
      repeat (first | refine pn_thenr ?_ | refine pn_blkr ?_)
      exact ret3 hcx rfl (rv_cell (c' := cx) (n := 0) rfl rfl tyZ rfl) (rv_cell (c' := cx) (n := 0) rfl rfl tyZ rfl) (rv_tmp rfl) (tup_le ⟨z_cast hf.1.symm (by omega), (z_cast hf.2.symm (Nat.le_refl _)).trans (z_as (by rw [hf.2]; exact Nat.le_trans (lim_mono hfb) hB1)), .refl _, trivial⟩) en
    · have hf := floor_no s0 s1 M0 M1 hM1 (fun h => hc h.2)
      refine tri_skip ?_
      refine nx (sl 4 rfl (sl 5 rfl (sl 10 rfl (sl 11 rfl sn)))) (el 10 rfl (el 11 rfl (el 12 rfl (el 13 rfl (el 421 rfl (el 422 rfl en)))))) ?_
      refine tri_seq ?_
      refine tri_reg mixed hcx ?_ _ _
      refine ld rfl rfl tyZ rfl ?_
      refine ld rfl rfl tyZ rfl ?_
      refine st rfl rfl rfl tyZ rfl ?_
      refine st rfl rfl rfl tyZ rfl ?_
      refine asg rfl ?_
      refine ⟨by kernel_rfl, ?_⟩
      refine nx (sl 4 rfl (sl 5 rfl (sl 6 rfl sn))) (el 10 rfl (el 11 rfl (el 12 rfl (el 13 rfl (el 421 rfl (el 422 rfl en)))))) ?_
      refine tri_ret ?_
      repeat (first | refine pn_thenr ?_ | refine pn_blkr ?_)
      exact ret3 hcx rfl (rv_cell (c' := cx) (n := 0) rfl rfl tyZ rfl) (rv_cell (c' := cx) (n := 0) rfl rfl tyZ rfl) (rv_tmp rfl) (tup_le ⟨z_cast hf.1.symm (by omega), z_cast hf.2.symm hlr, .refl _, trivial⟩) en

theorem exact_div {a b : Int} (hd : b ∣ a) : Int.fdiv a b = a / b ∧ Int.fmod a b = 0 := ⟨Int.fdiv_eq_ediv_of_dvd hd, Int.fmod_eq_zero_of_dvd hd⟩

theorem zi_Exact {a b : Int} {k l : Nat} (hb : b ≠ 0) (hd : b ∣ a) (hk : k ≤ 1099511627776) (hl : l ≤ 1099511627776) : Fn Tryz.prog 64 [T.Zi a k, T.Zi b l] [] [] [] (T.tup [T.Z (a / b) k, T.c (.int .i64 0)]) := by
  refine fn_of Tryz.func64 rfl (by show 2 ≤ 27; decide) fun cx hcx => ?_
  refine tri_sub (sl 0 rfl (sl 1 rfl sn)) en ?_
  refine tri_zi 0 rfl fun s0 M0 x0 hl0 hv0 hb0 hz0 hq0 => ?_
  subst hz0; have hB0 := lim_val hl0 hv0 hb0
  refine tri_zi 1 rfl fun s1 M1 x1 hl1 hv1 hb1 hz1 hq1 => ?_
  subst hz1; have hB1 := lim_val hl1 hv1 hb1
  have he := exact_div hd; have hzz := zl_div (intv s1 M1) (z_bd (s := s0) hl0 hv0 hb0)
  refine tri_seq ?_
  refine tri_reg mixed hcx ?_ _ _
  refine bxs 10 rfl ?_
  refine bxs 11 rfl ?_
  refine nw 12 zeZ ?_
  refine asg rfl ?_
  refine ⟨by kernel_rfl, ?_⟩
  refine nx (sl 2 rfl (sl 3 rfl (sl 4 rfl sn))) (el 10 rfl (el 11 rfl (el 12 rfl en))) ?_
  refine tri_seq ?_
  refine tri_reg mixed hcx ?_ _ _
  refine ld rfl rfl tyZ rfl ?_
  refine ld rfl rfl tyZ rfl ?_
  refine ca rfl (h := zi_Floor (by assumption) (by omega) (by omega)) (hn := ?_)
  refine mv rfl ?_
  refine ex rfl rfl ?_
  refine ex rfl rfl ?_
  refine ex rfl rfl ?_
  refine nw 117 zeZ ?_
  refine nw 118 zeZ ?_
  refine st rfl rfl rfl tyZ rfl ?_
  refine st rfl rfl rfl tyZ rfl ?_
  refine asg rfl ?_
  refine ⟨by kernel_rfl, ?_⟩
  refine nx (sl 4 rfl (sl 6 rfl (sl 7 rfl (sl 8 rfl sn)))) (el 10 rfl (el 11 rfl (el 12 rfl (el 117 rfl (el 118 rfl en))))) ?_
  refine tri_seq ?_
  refine tri_block ?_
  refine tri_seq ?_
  refine tri_reg mixed hcx ?_ _ _
  refine mv rfl ?_
  refine cne rfl rfl (decide_eq_false (by omega)) ?_
  refine asg rfl ?_
  refine ⟨by kernel_rfl, ?_⟩
  refine nx (sl 4 rfl (sl 6 rfl (sl 7 rfl (sl 8 rfl (sl 16 rfl sn))))) (el 10 rfl (el 11 rfl (el 12 rfl (el 117 rfl (el 118 rfl en))))) ?_
  refine tri_false rfl rfl ?_
  refine tri_seq ?_
  refine tri_reg mixed hcx ?_ _ _
  refine ld rfl rfl tyZ rfl ?_
  refine ca rfl (h := zi_Sign (by omega)) (hn := ?_)
  refine cne rfl rfl (decide_eq_false (by rw [he.2, sg_zero]; decide)) ?_
  refine asg rfl ?_
  refine ⟨by kernel_rfl, ?_⟩
  refine nx (sl 4 rfl (sl 6 rfl (sl 21 rfl sn))) (el 10 rfl (el 11 rfl (el 12 rfl (el 117 rfl (el 118 rfl en))))) ?_
  refine tri_false rfl rfl ?_
  refine tri_skip ?_
  refine pn_blk ?_
  refine nx (sl 4 rfl (sl 6 rfl sn)) (el 10 rfl (el 11 rfl (el 12 rfl (el 117 rfl (el 118 rfl en))))) ?_
  refine tri_seq ?_
  refine tri_reg mixed hcx ?_ _ _
  refine ld rfl rfl tyZ rfl ?_
  refine st rfl rfl rfl tyZ rfl ?_
  refine asg rfl ?_
  refine ⟨by kernel_rfl, ?_⟩
  refine nx (sl 4 rfl (sl 5 rfl sn)) (el 10 rfl (el 11 rfl (el 12 rfl (el 117 rfl (el 118 rfl en))))) ?_
  refine tri_ret ?_
  repeat (first | refine pn_thenr ?_ | refine pn_blkr ?_)
  exact ret2 hcx rfl (rv_cell (c' := cx) (n := 0) rfl rfl tyZ rfl) (rv_tmp rfl) (tup_le ⟨(z_cast he.1 (Nat.le_refl _)).trans (z_as hzz), .refl _, trivial⟩) en
end Go.Proofs.YtekghdfbhbhigaaGreatDoor.V
/- Contracts of the document: limbs. -/
set_option linter.unusedVariables false
set_option linter.unusedSimpArgs false
set_option maxRecDepth 100000
namespace Go.Proofs.YtekghdfbhbhigaaGreatDoor.V
open Go.RowKit Mt Nml
end Go.Proofs.YtekghdfbhbhigaaGreatDoor.V
/- Contracts of the document: limbs, division. -/
set_option linter.unusedVariables false
set_option linter.unusedSimpArgs false
set_option maxRecDepth 100000
namespace Go.Proofs.YtekghdfbhbhigaaGreatDoor.V
open Go.RowKit Mt Nml
end Go.Proofs.YtekghdfbhbhigaaGreatDoor.V
/- Contracts of the document: whole numbers, fractions. -/
set_option linter.unusedVariables false
set_option linter.unusedSimpArgs false
set_option maxRecDepth 100000
namespace Go.Proofs.YtekghdfbhbhigaaGreatDoor.V
open Go.RowKit Mt Nml
theorem q_mk {q : Rat} {x y : Int} {k l K : Nat} (h1 : q.num = x) (h2 : (q.den : Int) = y) (hk : k ≤ K) (hl : l ≤ K) : (T.st [T.Z x k, T.Z y l]).le (T.Q q K) := by
  subst h1; subst h2
  exact st_le (l := [T.Z q.num k, T.Z (q.den : Int) l]) (l' := [T.Z q.num K, T.Z (q.den : Int) K]) ⟨z_mono hk, z_mono hl, trivial⟩
theorem sg_lt {z : Int} : sg z < 0 ↔ z < 0 := by unfold sg sgnc; split <;> (try split) <;> omega
instance (z : Int) : IsZ (T.st [T.c (.bool (decide (z < 0))), T.l cU (dig z.natAbs)]) z (zl z) := ⟨(z_of rfl (Nat.le_refl _)).trans (z_zi z _), rfl⟩

section
variable {P : Program} {x : Code} {Q : Exit → Act → World → Prop} {ctx : Ctx} {n : Nat} {g : List (Nat × T)} {E : List (Nat × Option Ent)}
end

end Go.Proofs.YtekghdfbhbhigaaGreatDoor.V
/- Contracts: fractions, data of rows. -/
set_option linter.unusedVariables false
set_option linter.unusedSimpArgs false
set_option maxRecDepth 100000
namespace Go.Proofs.YtekghdfbhbhigaaGreatDoor.V
open Go.RowKit Mt Nml
theorem sg_ne {z : Int} (h : z ≠ 0) : sg z ≠ 0 := fun e => h (sg_eq_zero.1 e)

theorem rat_mk {a b : Int} {k l : Nat} (hb : b ≠ 0) (hk : k ≤ 1099511627776) (hl : l ≤ 1099511627776) : Fn Tryz.prog 43 [T.Zi a k, T.Zi b l] [] [] [] (T.Q ((a : Rat) / b) (k + l)) := by
  refine fn_of Tryz.func43 rfl (by show 2 ≤ 35; decide) fun cx hcx => ?_
  refine tri_sub (sl 0 rfl (sl 1 rfl sn)) en ?_
  refine tri_seq ?_
  refine tri_reg mixed hcx ?_ _ _
  refine bx 10 rfl ?_
  refine bx 11 rfl ?_
  refine nw 12 zeQ ?_
  refine ⟨by kernel_rfl, ?_⟩
  refine nx (sl 2 rfl (sl 3 rfl (sl 4 rfl sn))) (el 10 rfl (el 11 rfl (el 12 rfl en))) ?_
  refine tri_seq ?_
  refine tri_seq ?_
  refine tri_reg mixed hcx ?_ _ _
  refine ld rfl rfl tyZ rfl ?_
  refine ca rfl (h := zi_Sign (by omega)) (hn := ?_)
  refine clt rfl rfl rfl ?_
  refine ⟨by kernel_rfl, ?_⟩
  refine nx (sl 2 rfl (sl 3 rfl (sl 4 rfl (sl 12 rfl sn)))) (el 10 rfl (el 11 rfl (el 12 rfl en))) ?_
  refine tri_if rfl (fun hc => ?_) (fun hc => ?_)
  · have hb0 := sg_lt.1 hc
    have hgz : ((Int.gcd (-a) (-b) : Nat) : Int) ≠ 0 := gcd_nz (by omega)
    have hdx : ((Int.gcd (-a) (-b) : Nat) : Int) ∣ -a := Int.gcd_dvd_left ..; have hdy : ((Int.gcd (-a) (-b) : Nat) : Int) ∣ -b := Int.gcd_dvd_right ..; have hmx : max k l ≤ 1099511627776 := Nat.max_le.2 ⟨hk, hl⟩
    have hrm := rat_made (x := -a) (y := -b) (by omega); rw [rat_neg] at hrm
    refine tri_reg mixed hcx ?_ _ _
    refine ld rfl rfl tyZ rfl ?_
    refine ca rfl (h := zi_Neg (by omega)) (hn := ?_)
    refine ld rfl rfl tyZ rfl ?_
    refine ca rfl (h := zi_Neg (by omega)) (hn := ?_)
    refine st rfl rfl rfl tyZ rfl ?_
    refine st rfl rfl rfl tyZ rfl ?_
    refine ⟨by kernel_rfl, ?_⟩
    refine nx (sl 2 rfl (sl 3 rfl (sl 4 rfl sn))) (el 10 rfl (el 11 rfl (el 12 rfl en))) ?_
    refine tri_seq ?_
    refine tri_reg mixed hcx ?_ _ _
    refine ld rfl rfl tyZ rfl ?_
    refine ld rfl rfl tyZ rfl ?_
    refine ca rfl (h := zi_Gcd (by omega) (by omega)) (hn := ?_)
    refine nw 313 zeZ ?_
    refine st rfl rfl rfl tyZ rfl ?_
    refine ⟨by kernel_rfl, ?_⟩
    refine nx (sl 2 rfl (sl 3 rfl (sl 4 rfl (sl 5 rfl sn)))) (el 10 rfl (el 11 rfl (el 12 rfl (el 313 rfl en)))) ?_
    refine tri_seq ?_
    refine tri_reg mixed hcx ?_ _ _
    refine ld rfl rfl tyZ rfl ?_
    refine ld rfl rfl tyZ rfl ?_
    refine ca rfl (h := zi_Exact (by assumption) (by assumption) (by omega) (by omega)) (hn := ?_)
    refine mv rfl ?_
    refine ex rfl rfl ?_
    refine ex rfl rfl ?_
    refine nw 416 zeZ ?_
    refine st rfl rfl rfl tyZ rfl ?_
    refine asg rfl ?_
    refine ⟨by kernel_rfl, ?_⟩
    refine nx (sl 3 rfl (sl 4 rfl (sl 5 rfl (sl 6 rfl sn)))) (el 10 rfl (el 11 rfl (el 12 rfl (el 313 rfl (el 416 rfl en))))) ?_
    refine tri_seq ?_
    refine tri_reg mixed hcx ?_ _ _
    refine ld rfl rfl tyZ rfl ?_
    refine ld rfl rfl tyZ rfl ?_
    refine ca rfl (h := zi_Exact (by assumption) (by assumption) (by omega) (by omega)) (hn := ?_)
    refine mv rfl ?_
    refine ex rfl rfl ?_
    refine ex rfl rfl ?_
    refine nw 516 zeZ ?_
    refine st rfl rfl rfl tyZ rfl ?_
    refine asg rfl ?_
    refine ⟨by kernel_rfl, ?_⟩
    refine nx (sl 4 rfl (sl 6 rfl (sl 8 rfl sn))) (el 10 rfl (el 11 rfl (el 12 rfl (el 313 rfl (el 416 rfl (el 516 rfl en)))))) ?_
    refine tri_seq ?_
    refine tri_reg mixed hcx ?_ _ _
    refine ld rfl rfl tyZ rfl ?_
    refine ld rfl rfl tyZ rfl ?_
    refine bu stQ rfl ?_
    refine st rfl rfl rfl tyQ rfl ?_
    refine ⟨by kernel_rfl, ?_⟩
    refine nx (sl 4 rfl sn) (el 10 rfl (el 11 rfl (el 12 rfl (el 313 rfl (el 416 rfl (el 516 rfl en)))))) ?_
    refine tri_ret ?_
    repeat (first | refine pn_thenr ?_ | refine pn_blkr ?_)
    exact ret1 hcx rfl (rv_cell (c' := cx) (n := 0) rfl rfl tyQ rfl) (q_mk hrm.1 hrm.2 (by omega) (by omega)) en
  · have hb0 : 0 < b := by have : ¬ b < 0 := fun h => hc (sg_lt.2 h); omega
    have hgz : ((Int.gcd (a) (b) : Nat) : Int) ≠ 0 := gcd_nz (by omega)
    have hdx : ((Int.gcd (a) (b) : Nat) : Int) ∣ a := Int.gcd_dvd_left ..; have hdy : ((Int.gcd (a) (b) : Nat) : Int) ∣ b := Int.gcd_dvd_right ..; have hmx : max k l ≤ 1099511627776 := Nat.max_le.2 ⟨hk, hl⟩
    have hrm := rat_made (x := a) (y := b) (by omega)
    refine tri_skip ?_
    refine nx (sl 2 rfl (sl 3 rfl (sl 4 rfl sn))) (el 10 rfl (el 11 rfl (el 12 rfl en))) ?_
    refine tri_seq ?_
    refine tri_reg mixed hcx ?_ _ _
    refine ld rfl rfl tyZ rfl ?_
    refine ld rfl rfl tyZ rfl ?_
    refine ca rfl (h := zi_Gcd (by omega) (by omega)) (hn := ?_)
    refine nw 313 zeZ ?_
    refine st rfl rfl rfl tyZ rfl ?_
    refine ⟨by kernel_rfl, ?_⟩
    refine nx (sl 2 rfl (sl 3 rfl (sl 4 rfl (sl 5 rfl sn)))) (el 10 rfl (el 11 rfl (el 12 rfl (el 313 rfl en)))) ?_
    refine tri_seq ?_
    refine tri_reg mixed hcx ?_ _ _
    refine ld rfl rfl tyZ rfl ?_
    refine ld rfl rfl tyZ rfl ?_
    refine ca rfl (h := zi_Exact (by assumption) (by assumption) (by omega) (by omega)) (hn := ?_)
    refine mv rfl ?_
    refine ex rfl rfl ?_
    refine ex rfl rfl ?_
    refine nw 416 zeZ ?_
    refine st rfl rfl rfl tyZ rfl ?_
    refine asg rfl ?_
    refine ⟨by kernel_rfl, ?_⟩
    refine nx (sl 3 rfl (sl 4 rfl (sl 5 rfl (sl 6 rfl sn)))) (el 10 rfl (el 11 rfl (el 12 rfl (el 313 rfl (el 416 rfl en))))) ?_
    refine tri_seq ?_
    refine tri_reg mixed hcx ?_ _ _
    refine ld rfl rfl tyZ rfl ?_
    refine ld rfl rfl tyZ rfl ?_
    refine ca rfl (h := zi_Exact (by assumption) (by assumption) (by omega) (by omega)) (hn := ?_)
    refine mv rfl ?_
    refine ex rfl rfl ?_
    refine ex rfl rfl ?_
    refine nw 516 zeZ ?_
    refine st rfl rfl rfl tyZ rfl ?_
    refine asg rfl ?_
    refine ⟨by kernel_rfl, ?_⟩
    refine nx (sl 4 rfl (sl 6 rfl (sl 8 rfl sn))) (el 10 rfl (el 11 rfl (el 12 rfl (el 313 rfl (el 416 rfl (el 516 rfl en)))))) ?_
    refine tri_seq ?_
    refine tri_reg mixed hcx ?_ _ _
    refine ld rfl rfl tyZ rfl ?_
    refine ld rfl rfl tyZ rfl ?_
    refine bu stQ rfl ?_
    refine st rfl rfl rfl tyQ rfl ?_
    refine ⟨by kernel_rfl, ?_⟩
    refine nx (sl 4 rfl sn) (el 10 rfl (el 11 rfl (el 12 rfl (el 313 rfl (el 416 rfl (el 516 rfl en)))))) ?_
    refine tri_ret ?_
    repeat (first | refine pn_thenr ?_ | refine pn_blkr ?_)
    exact ret1 hcx rfl (rv_cell (c' := cx) (n := 0) rfl rfl tyQ rfl) (q_mk hrm.1 hrm.2 (by omega) (by omega)) en

theorem rat_Make {a b : Int} {k l : Nat} (hb : b ≠ 0) (hk : k ≤ 1099511627776) (hl : l ≤ 1099511627776) : Fn Tryz.prog 24 [T.Zi a k, T.Zi b l] [] [] [] (T.tup [T.Q ((a : Rat) / b) (k + l), T.c (.int .i64 0)]) := by
  refine fn_of Tryz.func24 rfl (by show 2 ≤ 13; decide) fun cx hcx => ?_
  refine tri_sub (sl 0 rfl (sl 1 rfl sn)) en ?_
  have hsb := sg_ne hb
  refine tri_seq ?_
  refine tri_reg mixed hcx ?_ _ _
  refine bx 10 rfl ?_
  refine bx 11 rfl ?_
  refine nw 12 zeQ ?_
  refine asg rfl ?_
  refine ⟨by kernel_rfl, ?_⟩
  refine nx (sl 2 rfl (sl 3 rfl (sl 4 rfl sn))) (el 10 rfl (el 11 rfl (el 12 rfl en))) ?_
  refine tri_seq ?_
  refine tri_seq ?_
  refine tri_reg mixed hcx ?_ _ _
  refine ld rfl rfl tyZ rfl ?_
  refine ca rfl (h := zi_Sign (by omega)) (hn := ?_)
  refine ceq rfl rfl (decide_eq_false (by omega)) ?_
  refine ⟨by kernel_rfl, ?_⟩
  refine nx (sl 2 rfl (sl 3 rfl (sl 4 rfl (sl 8 rfl sn)))) (el 10 rfl (el 11 rfl (el 12 rfl en))) ?_
  refine tri_false rfl rfl ?_
  refine tri_skip ?_
  refine nx (sl 2 rfl (sl 3 rfl (sl 4 rfl sn))) (el 10 rfl (el 11 rfl (el 12 rfl en))) ?_
  refine tri_seq ?_
  refine tri_reg mixed hcx ?_ _ _
  refine ld rfl rfl tyZ rfl ?_
  refine ld rfl rfl tyZ rfl ?_
  refine ca rfl (h := rat_mk (by assumption) (by omega) (by omega)) (hn := ?_)
  refine st rfl rfl rfl tyQ rfl ?_
  refine asg rfl ?_
  refine ⟨by kernel_rfl, ?_⟩
  refine nx (sl 4 rfl (sl 5 rfl sn)) (el 10 rfl (el 11 rfl (el 12 rfl en))) ?_
  refine tri_ret ?_
  repeat (first | refine pn_thenr ?_ | refine pn_blkr ?_)
  exact ret2 hcx rfl (rv_cell (c' := cx) (n := 0) rfl rfl tyQ rfl) (rv_tmp rfl) (.refl _) en

theorem rat_Of {z : Int} {k : Nat} (hk : k ≤ 17592186044416) : Fn Tryz.prog 31 [T.Zi z k] [] [] [] (T.Q (z : Rat) (k + 2)) := by
  refine fn_of Tryz.func31 rfl (by show 1 ≤ 7; decide) fun cx hcx => ?_
  refine tri_sub (sl 0 rfl sn) en ?_
  refine tri_seq ?_
  refine tri_reg mixed hcx ?_ _ _
  refine bx 10 rfl ?_
  refine nw 11 zeQ ?_
  refine ⟨by kernel_rfl, ?_⟩
  refine nx (sl 1 rfl (sl 2 rfl sn)) (el 10 rfl (el 11 rfl en)) ?_
  refine tri_seq ?_
  refine tri_reg mixed hcx ?_ _ _
  refine ld rfl rfl tyZ rfl ?_
  refine ca rfl (h := zi_Form (by omega)) (hn := ?_)
  refine ca rfl (h := zi_Of (by omega) (by omega)) (hn := ?_)
  refine bu stQ rfl ?_
  refine st rfl rfl rfl tyQ rfl ?_
  refine ⟨by kernel_rfl, ?_⟩
  refine nx (sl 2 rfl sn) (el 10 rfl (el 11 rfl en)) ?_
  refine tri_ret ?_
  repeat (first | refine pn_thenr ?_ | refine pn_blkr ?_)
  exact ret1 hcx rfl (rv_cell (c' := cx) (n := 0) rfl rfl tyQ rfl) (q_mk (rat_whole z).1 (rat_whole z).2 (by omega) (by omega)) en

instance {α : Type} (c : Cod α) (l : List α) : IsS ((cL c).X l) l.length := inferInstanceAs (IsS (T.l c l) l.length)
instance {α : Type} (c : Cod α) (l : List α) : IsI ((cL c).X l) c l := inferInstanceAs (IsI (T.l c l) c l)
instance {α : Type} (c : Cod α) (l : List α) : IsL ((cL c).X l) c l := inferInstanceAs (IsL (T.l c l) c l)
/-- Data of rows, of the right shape. -/
def GoodP (D : List Int) (L : List (List Int)) : Prop := 0 < L.length ∧ D.length = L.length + 1 ∧ D.getD 0 0 = 1 ∧ ∀ i, i < L.length → (L.getD i []).length = i ∧ 0 < D.getD (i + 1) 0
theorem sgnc_eq0 {a b : Int} : sgnc a b = 0 ↔ a = b := by unfold sgnc; split <;> (try split) <;> omega
theorem sg_le {z : Int} : sg z ≤ 0 ↔ z ≤ 0 := by unfold sg sgnc; split <;> (try split) <;> omega
theorem b_no {q : Bool} {p : Prop} (hq : q = true ↔ p) (h : ¬ p) : (T.c (.bool false)).le (T.c (.bool q)) := by
  cases q with
  | false => exact .refl _
  | true => exact absurd (hq.1 rfl) h
theorem b_yes {q : Bool} {p : Prop} (hq : q = true ↔ p) (h : p) : (T.c (.bool true)).le (T.c (.bool q)) := by rw [hq.2 h]; exact .refl _
theorem g_good {D : List Int} {L : List (List Int)} {k : Nat} {q : Bool} (hq : q = true ↔ GoodP D L) (hk : k ≤ 1073741824) (hLl : L.length ≤ 1073741824) (hDl : D.length ≤ 1073741824) : Fn Tryz.prog 89 [T.G D L k] [] [] [] (T.c (.bool q)) := by
  refine fn_of Tryz.func89 rfl (by show 1 ≤ 51; decide) fun cx hcx => ?_
  refine tri_sub (sl 0 rfl sn) en ?_
  refine tri_seq ?_
  refine tri_reg mixed hcx ?_ _ _
  refine bxs 10 rfl ?_
  refine asg rfl ?_
  refine ⟨by kernel_rfl, ?_⟩
  refine nx (sl 1 rfl sn) (el 10 rfl en) ?_
  refine tri_seq ?_
  refine tri_seq ?_
  rcases Nat.eq_zero_or_pos L.length with hL | hL; rotate_left; rcases Nat.decEq D.length (L.length + 1) with hD | hD; rotate_left; rotate_left
  · refine tri_reg mixed hcx ?_ _ _
    refine fa rfl fL 1 ?_
    refine ld rfl rfl tyZss rfl ?_
    refine ln slZss rfl ?_
    refine ceq rfl rfl (decide_eq_true (by omega)) ?_
    refine mv rfl ?_
    refine j_off rfl rfl rfl rfl ?_
    refine j_off rfl rfl rfl rfl ?_
    refine j_off rfl rfl rfl rfl ?_
    refine j_off rfl rfl rfl rfl ?_
    refine j_off rfl rfl rfl rfl ?_
    refine j_off rfl rfl rfl rfl ?_
    refine j_off rfl rfl rfl rfl ?_
    refine j_off rfl rfl rfl rfl ?_
    refine pk rfl rfl ?_
    refine mv rfl ?_
    refine j_off rfl rfl rfl rfl ?_
    refine j_off rfl rfl rfl rfl ?_
    refine j_off rfl rfl rfl rfl ?_
    refine j_off rfl rfl rfl rfl ?_
    refine j_off rfl rfl rfl rfl ?_
    refine j_off rfl rfl rfl rfl ?_
    refine j_off rfl rfl rfl rfl ?_
    refine pk rfl rfl ?_
    refine ⟨by kernel_rfl, ?_⟩
    refine nx (sl 1 rfl (sl 27 rfl sn)) (el 10 rfl en) ?_
    refine tri_true rfl rfl ?_
    refine tri_seq ?_
    refine tri_reg mixed hcx ?_ _ _
    refine asg rfl ?_
    refine ⟨by kernel_rfl, ?_⟩
    refine nx (sl 2 rfl sn) (el 10 rfl en) ?_
    refine tri_ret ?_
    repeat (first | refine pn_thenr ?_ | refine pn_blkr ?_)
    exact ret1 hcx rfl (rv_tmp rfl) (b_no hq (fun h => by have := h.1; omega)) en
  · refine tri_reg mixed hcx ?_ _ _
    refine fa rfl fL 1 ?_
    refine ld rfl rfl tyZss rfl ?_
    refine ln slZss rfl ?_
    refine ceq rfl rfl (decide_eq_false (by omega)) ?_
    refine mv rfl ?_
    refine fa rfl fD 0 ?_ (hg := gd1)
    refine ld rfl rfl tyZs rfl ?_ (hg := gd1)
    refine ln slZs rfl ?_ (hg := gd1)
    refine fa rfl fL 1 ?_ (hg := gd1)
    refine ld rfl rfl tyZss rfl ?_ (hg := gd1)
    refine ln slZss rfl ?_ (hg := gd1)
    refine ad _ rfl rfl rfl ⟨rfl, by omega, by omega⟩ ?_ (hg := gd1)
    refine cne rfl rfl (decide_eq_true (by omega)) ?_ (hg := gd1)
    refine pk rfl rfl ?_
    refine mv rfl ?_
    refine j_off rfl rfl rfl rfl ?_
    refine j_off rfl rfl rfl rfl ?_
    refine j_off rfl rfl rfl rfl ?_
    refine j_off rfl rfl rfl rfl ?_
    refine j_off rfl rfl rfl rfl ?_
    refine j_off rfl rfl rfl rfl ?_
    refine j_off rfl rfl rfl rfl ?_
    refine pk rfl rfl ?_
    refine ⟨by kernel_rfl, ?_⟩
    refine nx (sl 1 rfl (sl 27 rfl sn)) (el 10 rfl en) ?_
    refine tri_true rfl rfl ?_
    refine tri_seq ?_
    refine tri_reg mixed hcx ?_ _ _
    refine asg rfl ?_
    refine ⟨by kernel_rfl, ?_⟩
    refine nx (sl 2 rfl sn) (el 10 rfl en) ?_
    refine tri_ret ?_
    repeat (first | refine pn_thenr ?_ | refine pn_blkr ?_)
    exact ret1 hcx rfl (rv_tmp rfl) (b_no hq (fun h => by have := h.2.1; omega)) en
  · refine tri_reg mixed hcx ?_ _ _
    refine fa rfl fL 1 ?_
    refine ld rfl rfl tyZss rfl ?_
    refine ln slZss rfl ?_
    refine ceq rfl rfl (decide_eq_false (by omega)) ?_
    refine mv rfl ?_
    refine fa rfl fD 0 ?_ (hg := gd1)
    refine ld rfl rfl tyZs rfl ?_ (hg := gd1)
    refine ln slZs rfl ?_ (hg := gd1)
    refine fa rfl fL 1 ?_ (hg := gd1)
    refine ld rfl rfl tyZss rfl ?_ (hg := gd1)
    refine ln slZss rfl ?_ (hg := gd1)
    refine ad _ rfl rfl rfl ⟨rfl, by omega, by omega⟩ ?_ (hg := gd1)
    refine cne rfl rfl (decide_eq_false (by omega)) ?_ (hg := gd1)
    refine pk rfl rfl ?_
    refine mv rfl ?_
    refine fa rfl fD 0 ?_ (hg := gd1)
    refine ld rfl rfl tyZs rfl ?_ (hg := gd1)
    refine ix rfl rfl slZs ⟨(rfl : _ = ((0 : Nat) : Int)), by omega⟩ ?_ (hg := gd1)
    refine lf rfl tyZ ?_ (hg := gd1)
    refine ca rfl (h := zi_Of (by omega) (by omega)) (hn := ?_) (hg := gd1)
    refine ca rfl (h := zi_Compare (by omega) (by omega)) (hn := ?_) (hg := gd1)
    refine cne rfl rfl rfl ?_ (hg := gd1)
    refine pk rfl rfl ?_
    refine ⟨by kernel_rfl, ?_⟩
    refine nx (sl 1 rfl (sl 27 rfl sn)) (el 10 rfl en) ?_
    refine tri_if rfl (fun hc => ?_) (fun hc => ?_)
    · refine tri_seq ?_
      refine tri_reg mixed hcx ?_ _ _
      refine asg rfl ?_
      refine ⟨by kernel_rfl, ?_⟩
      refine nx (sl 2 rfl sn) (el 10 rfl en) ?_
      refine tri_ret ?_
      repeat (first | refine pn_thenr ?_ | refine pn_blkr ?_)
      exact ret1 hcx rfl (rv_tmp rfl) (b_no hq (fun h => hc (sgnc_eq0.2 h.2.2.1))) en
    · have hD0 : D.getD 0 0 = 1 := sgnc_eq0.1 (Decidable.not_not.1 hc)
      refine tri_skip ?_
      refine nx (sl 1 rfl sn) (el 10 rfl en) ?_
      refine tri_seq ?_
      refine tri_seq ?_
      refine tri_reg mixed hcx ?_ _ _
      refine fa rfl fL 1 ?_
      refine ld rfl rfl tyZss rfl ?_
      refine ln slZss rfl ?_
      refine mv rfl ?_
      refine ⟨by kernel_rfl, ?_⟩
      refine nx (sl 1 rfl (sl 29 rfl (sl 30 rfl (sl 31 rfl sn)))) (el 10 rfl en) ?_
      refine tri_block ?_
      refine tri_loop (ι := Nat) (fun i => [(1, T.p 10 0), (29, T.l (cL (cZi k)) L), (30, T.c (.int .i64 (L.length : Int))), (31, T.c (.int .i64 (i : Int)))]) (fun i => [(10, some (Ent.box 32 [T.l (cZi k) D, T.l (cL (cZi k)) L]))]) (fun i => L.length - i) (fun i => (i ≤ L.length) ∧ (∀ j, j < i → (L.getD j []).length = j ∧ 0 < D.getD (j + 1) 0)) 0 ⟨Nat.zero_le _, fun j hj => absurd hj (Nat.not_lt_zero _)⟩ (sl 1 rfl (sl 29 rfl (sl 30 rfl (sl 31 rfl sn)))) (el 10 rfl en) ?_
      rintro i ⟨hi, hI⟩
      refine tri_sub (sl 1 rfl (sl 29 rfl (sl 30 rfl (sl 31 rfl sn)))) (el 10 rfl en) ?_
      refine tri_seq ?_
      refine tri_reg mixed hcx ?_ _ _
      refine clt rfl rfl rfl ?_
      refine ⟨by kernel_rfl, ?_⟩
      refine nx (sl 1 rfl (sl 29 rfl (sl 30 rfl (sl 31 rfl (sl 32 rfl sn))))) (el 10 rfl en) ?_
      refine tri_seq ?_
      refine tri_if rfl (fun hd => ?_) (fun hd => ?_)
      · refine tri_skip ?_
        refine nx (sl 1 rfl (sl 29 rfl (sl 30 rfl (sl 31 rfl sn)))) (el 10 rfl en) ?_
        refine tri_seq ?_
        refine tri_block ?_
        refine tri_seq ?_
        refine tri_reg mixed hcx ?_ _ _
        refine mv rfl ?_
        refine ix rfl rfl slZss ⟨rfl, by omega⟩ ?_
        refine lf rfl tyZs ?_
        refine asg rfl ?_
        refine asg rfl ?_
        refine ⟨by kernel_rfl, ?_⟩
        refine nx (sl 1 rfl (sl 3 rfl (sl 4 rfl (sl 29 rfl (sl 30 rfl (sl 31 rfl sn)))))) (el 10 rfl en) ?_
        refine tri_seq ?_
        by_cases hLi : (L.getD i []).length = i
        · refine tri_reg mixed hcx ?_ _ _
          refine mv rfl ?_
          refine ln slZs rfl ?_
          refine mv rfl ?_
          refine cne rfl rfl (decide_eq_false (fun h => h (Int.ofNat_inj.2 hLi))) ?_
          refine mv rfl ?_
          refine fa rfl fD 0 ?_ (hg := gd1)
          refine ld rfl rfl tyZs rfl ?_ (hg := gd1)
          refine mv rfl ?_ (hg := gd1)
          refine ad (((i + 1 : Nat) : Int)) rfl rfl rfl (by omega) ?_ (hg := gd1)
          refine ix rfl rfl slZs ⟨rfl, by omega⟩ ?_ (hg := gd1)
          refine lf rfl tyZ ?_ (hg := gd1)
          refine ca rfl (h := zi_Sign (by omega)) (hn := ?_) (hg := gd1)
          refine cle rfl rfl rfl ?_ (hg := gd1)
          refine pk rfl rfl ?_
          refine ⟨by kernel_rfl, ?_⟩
          refine nx (sl 1 rfl (sl 29 rfl (sl 30 rfl (sl 31 rfl (sl 49 rfl sn))))) (el 10 rfl en) ?_
          refine tri_if rfl (fun he => ?_) (fun he => ?_)
          · refine tri_seq ?_
            refine tri_reg mixed hcx ?_ _ _
            refine asg rfl ?_
            refine ⟨by kernel_rfl, ?_⟩
            refine nx (sl 2 rfl sn) (el 10 rfl en) ?_
            refine tri_ret ?_
            repeat (first | refine pn_thenr ?_ | refine pn_blkr ?_)
            exact ret1 hcx rfl (rv_tmp rfl) (b_no hq (fun h => by have := (h.2.2.2 i (by omega)).2; have h2 := sg_le.1 he; exact absurd this (Int.not_lt.2 h2))) en
          · have hDi : 0 < D.getD (i + 1) 0 := Int.not_le.1 fun h => he (sg_le.2 h)
            refine tri_skip ?_
            refine pn_blk ?_
            refine nx (sl 1 rfl (sl 29 rfl (sl 30 rfl (sl 31 rfl sn)))) (el 10 rfl en) ?_
            refine tri_reg mixed hcx ?_ _ _
            refine ad (((i + 1 : Nat) : Int)) rfl rfl rfl (by omega) ?_
            refine mv rfl ?_
            refine ⟨by kernel_rfl, ?_⟩
            exact pn_back (i + 1) (by first | omega | (dsimp only; omega)) ⟨by omega, fun j hj => by { rcases Nat.lt_or_eq_of_le (Nat.le_of_lt_succ hj) with h | h; { exact hI j h }; { subst h; exact ⟨hLi, hDi⟩ } }⟩ (sl 1 rfl (sl 29 rfl (sl 30 rfl (sl 31 rfl sn)))) (el 10 rfl en)
        · refine tri_reg mixed hcx ?_ _ _
          refine mv rfl ?_
          refine ln slZs rfl ?_
          refine mv rfl ?_
          refine cne rfl rfl (decide_eq_true (fun h => hLi (Int.ofNat_inj.1 h))) ?_
          refine mv rfl ?_
          refine j_off rfl rfl rfl rfl ?_
          refine j_off rfl rfl rfl rfl ?_
          refine j_off rfl rfl rfl rfl ?_
          refine j_off rfl rfl rfl rfl ?_
          refine j_off rfl rfl rfl rfl ?_
          refine j_off rfl rfl rfl rfl ?_
          refine j_off rfl rfl rfl rfl ?_
          refine j_off rfl rfl rfl rfl ?_
          refine pk rfl rfl ?_
          refine ⟨by kernel_rfl, ?_⟩
          refine nx (sl 1 rfl (sl 29 rfl (sl 30 rfl (sl 31 rfl (sl 49 rfl sn))))) (el 10 rfl en) ?_
          refine tri_true rfl rfl ?_
          refine tri_seq ?_
          refine tri_reg mixed hcx ?_ _ _
          refine asg rfl ?_
          refine ⟨by kernel_rfl, ?_⟩
          refine nx (sl 2 rfl sn) (el 10 rfl en) ?_
          refine tri_ret ?_
          repeat (first | refine pn_thenr ?_ | refine pn_blkr ?_)
          exact ret1 hcx rfl (rv_tmp rfl) (b_no hq (fun h => hLi (h.2.2.2 i (by omega)).1)) en
      · refine tri_exit ?_
        repeat (first | refine pn_then ?_ | refine pn_oth (by decide) ?_)
        refine pn_ex ?_
        refine nx sn (el 10 rfl en) ?_
        refine tri_seq ?_
        refine tri_reg mixed hcx ?_ _ _
        refine asg rfl ?_
        refine ⟨by kernel_rfl, ?_⟩
        refine nx (sl 2 rfl sn) (el 10 rfl en) ?_
        refine tri_ret ?_
        repeat (first | refine pn_thenr ?_ | refine pn_blkr ?_)
        exact ret1 hcx rfl (rv_tmp rfl) (b_yes hq ⟨hL, hD, hD0, fun j hj => hI j (by omega)⟩) en

end Go.Proofs.YtekghdfbhbhigaaGreatDoor.V
/- Contracts: the numbers of the data of rows. -/
set_option linter.unusedVariables false
set_option linter.unusedSimpArgs false
set_option maxRecDepth 100000
namespace Go.Proofs.YtekghdfbhbhigaaGreatDoor.V
open Go.RowKit Mt Nml
theorem GoodP.pos {D : List Int} {L : List (List Int)} (h : GoodP D L) {i : Nat} (hi : i ≤ L.length) : 0 < D.getD i 0 := by
  cases i with
  | zero => rw [h.2.2.1]; decide
  | succ j => exact (h.2.2.2 j (by omega)).2
theorem g_Star {D : List Int} {L : List (List Int)} {k i : Nat} (hk : k ≤ 1073741824) (hLl : L.length ≤ 1048576) (hG : GoodP D L) (hi : i < L.length) : Fn Tryz.prog 70 [T.G D L k, T.c (.int .i64 (i : Int))] [] [] [] (T.tup [T.Q (((D.getD (i + 1) 0 : Int) : Rat) / (D.getD i 0 : Int)) (k + k), T.c (.int .i64 0)]) := by
  refine fn_of Tryz.func70 rfl (by show 2 ≤ 34; decide) fun cx hcx => ?_
  refine tri_sub (sl 0 rfl (sl 1 rfl sn)) en ?_
  have hDL := hG.2.1
  have hne : D.getD i (cZi k).dflt ≠ 0 := Int.ne_of_gt (hG.pos (by omega))
  refine tri_seq ?_
  refine tri_reg mixed hcx ?_ _ _
  refine bxs 10 rfl ?_
  refine nw 11 zeQ ?_
  refine asg rfl ?_
  refine ⟨by kernel_rfl, ?_⟩
  refine nx (sl 1 rfl (sl 2 rfl (sl 4 rfl sn))) (el 10 rfl (el 11 rfl en)) ?_
  refine tri_seq ?_
  refine tri_seq ?_
  refine tri_reg mixed hcx ?_ _ _
  refine ld rfl rfl tyG rfl ?_
  refine ca rfl (h := g_good (q := true) ⟨fun _ => hG, fun _ => rfl⟩ (by omega) (by omega) (by omega)) (hn := ?_)
  refine nt rfl _ rfl ?_
  refine ⟨by kernel_rfl, ?_⟩
  refine nx (sl 1 rfl (sl 2 rfl (sl 4 rfl (sl 8 rfl sn)))) (el 10 rfl (el 11 rfl en)) ?_
  refine tri_false rfl rfl ?_
  refine tri_skip ?_
  refine nx (sl 1 rfl (sl 2 rfl (sl 4 rfl sn))) (el 10 rfl (el 11 rfl en)) ?_
  refine tri_seq ?_
  refine tri_seq ?_
  refine tri_reg mixed hcx ?_ _ _
  refine mv rfl ?_
  refine clt rfl rfl (decide_eq_false (by omega)) ?_
  refine mv rfl ?_
  refine mv rfl ?_ (hg := gd1)
  refine fa rfl fL 1 ?_ (hg := gd1)
  refine ld rfl rfl tyZss rfl ?_ (hg := gd1)
  refine ln slZss rfl ?_ (hg := gd1)
  refine cge rfl rfl (decide_eq_false (by omega)) ?_ (hg := gd1)
  refine pk rfl rfl ?_
  refine ⟨by kernel_rfl, ?_⟩
  refine nx (sl 1 rfl (sl 2 rfl (sl 4 rfl (sl 18 rfl sn)))) (el 10 rfl (el 11 rfl en)) ?_
  refine tri_false rfl rfl ?_
  refine tri_skip ?_
  refine nx (sl 1 rfl (sl 2 rfl (sl 4 rfl sn))) (el 10 rfl (el 11 rfl en)) ?_
  refine tri_seq ?_
  refine tri_reg mixed hcx ?_ _ _
  refine fa rfl fD 0 ?_
  refine ld rfl rfl tyZs rfl ?_
  refine mv rfl ?_
  refine ad (((i + 1 : Nat) : Int)) rfl rfl rfl (by omega) ?_
  refine ix rfl rfl slZs ⟨rfl, by omega⟩ ?_
  refine lf rfl tyZ ?_
  refine fa rfl fD 0 ?_
  refine ld rfl rfl tyZs rfl ?_
  refine mv rfl ?_
  refine ix rfl rfl slZs ⟨rfl, by omega⟩ ?_
  refine lf rfl tyZ ?_
  refine ca rfl (h := rat_Make (by first | assumption | omega) (by omega) (by omega)) (hn := ?_)
  refine ex rfl rfl ?_
  refine ex rfl rfl ?_
  refine st rfl rfl rfl tyQ rfl ?_
  refine asg rfl ?_
  refine ⟨by kernel_rfl, ?_⟩
  refine nx (sl 4 rfl (sl 5 rfl sn)) (el 10 rfl (el 11 rfl en)) ?_
  refine tri_ret ?_
  repeat (first | refine pn_thenr ?_ | refine pn_blkr ?_)
  exact ret2 hcx rfl (rv_cell (c' := cx) (n := 0) rfl rfl tyQ rfl) (rv_tmp rfl) (.refl _) en

theorem g_Mu {D : List Int} {L : List (List Int)} {k i j : Nat} (hk : k ≤ 1073741824) (hLl : L.length ≤ 1048576) (hG : GoodP D L) (hi : i < L.length) (hj : j < i) : Fn Tryz.prog 80 [T.G D L k, T.c (.int .i64 (i : Int)), T.c (.int .i64 (j : Int))] [] [] [] (T.tup [T.Q ((((L.getD i []).getD j 0 : Int) : Rat) / (D.getD (j + 1) 0 : Int)) (k + k), T.c (.int .i64 0)]) := by
  refine fn_of Tryz.func80 rfl (by show 3 ≤ 56; decide) fun cx hcx => ?_
  refine tri_sub (sl 0 rfl (sl 1 rfl (sl 2 rfl sn))) en ?_
  have hDL := hG.2.1
  have hne : D.getD (j + 1) (cZi k).dflt ≠ 0 := Int.ne_of_gt (hG.pos (by omega)); have hLi : (L.getD i (cL (cZi k)).dflt).length = i := (hG.2.2.2 i hi).1
  refine tri_seq ?_
  refine tri_reg mixed hcx ?_ _ _
  refine bxs 10 rfl ?_
  refine nw 11 zeQ ?_
  refine asg rfl ?_
  refine ⟨by kernel_rfl, ?_⟩
  refine nx (sl 1 rfl (sl 2 rfl (sl 3 rfl (sl 6 rfl sn)))) (el 10 rfl (el 11 rfl en)) ?_
  refine tri_seq ?_
  refine tri_block ?_
  refine tri_seq ?_
  refine tri_reg mixed hcx ?_ _ _
  refine ld rfl rfl tyG rfl ?_
  refine ca rfl (h := g_good (q := true) ⟨fun _ => hG, fun _ => rfl⟩ (by omega) (by omega) (by omega)) (hn := ?_)
  refine nt rfl _ rfl ?_
  refine asg rfl ?_
  refine ⟨by kernel_rfl, ?_⟩
  refine nx (sl 1 rfl (sl 2 rfl (sl 3 rfl (sl 6 rfl (sl 8 rfl sn))))) (el 10 rfl (el 11 rfl en)) ?_
  refine tri_false rfl rfl ?_
  refine tri_seq ?_
  refine tri_reg mixed hcx ?_ _ _
  refine mv rfl ?_
  refine clt rfl rfl (decide_eq_false (by omega)) ?_
  refine mv rfl ?_
  refine mv rfl ?_ (hg := gd1)
  refine fa rfl fL 1 ?_ (hg := gd1)
  refine ld rfl rfl tyZss rfl ?_ (hg := gd1)
  refine ln slZss rfl ?_ (hg := gd1)
  refine cge rfl rfl (decide_eq_false (by omega)) ?_ (hg := gd1)
  refine pk rfl rfl ?_
  refine mv rfl ?_
  refine mv rfl ?_ (hg := gd1)
  refine clt rfl rfl (decide_eq_false (by omega)) ?_ (hg := gd1)
  refine pk rfl rfl ?_
  refine mv rfl ?_
  refine mv rfl ?_ (hg := gd1)
  refine mv rfl ?_ (hg := gd1)
  refine cgt rfl rfl (decide_eq_false (by omega)) ?_ (hg := gd1)
  refine pk rfl rfl ?_
  refine asg rfl ?_
  refine ⟨by kernel_rfl, ?_⟩
  refine nx (sl 1 rfl (sl 2 rfl (sl 3 rfl (sl 6 rfl (sl 13 rfl sn))))) (el 10 rfl (el 11 rfl en)) ?_
  refine tri_false rfl rfl ?_
  refine tri_seq ?_
  refine tri_reg mixed hcx ?_ _ _
  refine mv rfl ?_
  refine mv rfl ?_
  refine ceq rfl rfl (decide_eq_false (by omega)) ?_
  refine asg rfl ?_
  refine ⟨by kernel_rfl, ?_⟩
  refine nx (sl 1 rfl (sl 2 rfl (sl 3 rfl (sl 6 rfl (sl 33 rfl sn))))) (el 10 rfl (el 11 rfl en)) ?_
  refine tri_false rfl rfl ?_
  refine tri_skip ?_
  refine pn_blk ?_
  refine nx (sl 1 rfl (sl 2 rfl (sl 3 rfl (sl 6 rfl sn)))) (el 10 rfl (el 11 rfl en)) ?_
  refine tri_seq ?_
  refine tri_reg mixed hcx ?_ _ _
  refine fa rfl fL 1 ?_
  refine ld rfl rfl tyZss rfl ?_
  refine mv rfl ?_
  refine ix rfl rfl slZss ⟨rfl, by omega⟩ ?_
  refine lf rfl tyZs ?_
  refine mv rfl ?_
  refine ix rfl rfl slZs ⟨rfl, by omega⟩ ?_
  refine lf rfl tyZ ?_
  refine fa rfl fD 0 ?_
  refine ld rfl rfl tyZs rfl ?_
  refine mv rfl ?_
  refine ad (((j + 1 : Nat) : Int)) rfl rfl rfl (by omega) ?_
  refine ix rfl rfl slZs ⟨rfl, by omega⟩ ?_
  refine lf rfl tyZ ?_
  refine ca rfl (h := rat_Make (by first | assumption | omega) (by omega) (by omega)) (hn := ?_)
  refine ex rfl rfl ?_
  refine ex rfl rfl ?_
  refine st rfl rfl rfl tyQ rfl ?_
  refine asg rfl ?_
  refine ⟨by kernel_rfl, ?_⟩
  refine nx (sl 6 rfl (sl 7 rfl sn)) (el 10 rfl (el 11 rfl en)) ?_
  refine tri_ret ?_
  repeat (first | refine pn_thenr ?_ | refine pn_blkr ?_)
  exact ret2 hcx rfl (rv_cell (c' := cx) (n := 0) rfl rfl tyQ rfl) (rv_tmp rfl) (.refl _) en

end Go.Proofs.YtekghdfbhbhigaaGreatDoor.V
/- A logic of calls: rows in a box get other names; a slice with a bound. -/
set_option linter.unusedVariables false
set_option linter.unusedSimpArgs false
namespace Go.Proofs.YtekghdfbhbhigaaGreatDoor.V
open Go.RowKit Mt Nml

/-- The same things, with another name for a row. -/
def RenC (e e' : Nat) : List T → List T → Prop
  | [], [] => True
  | X :: r, Y :: s => ((X = Y ∧ e ∉ X.ns) ∨ (X = T.o e' ∧ Y = T.o e)) ∧ RenC e e' r s
  | _, _ => False
theorem RenC.cells {e e' : Nat} {β : Env} {u : World} : ∀ {l l' : List T} {cs : List Value}, RenC e e' l l' → Cells β u l cs → Cells (setE β e (β e')) u l' cs
  | [], [], _, _, h => h
  | X :: r, Y :: s, cs, ⟨k1, k2⟩, ⟨v, rest, h0, h1, he, h2⟩ => by
    refine ⟨v, rest, ?_, ?_, he, RenC.cells k2 h2⟩
    · rcases k1 with ⟨rfl, _⟩ | ⟨_, rfl⟩
      · exact h0
      · show (1 : Nat) ≠ 0; omega
    · rcases k1 with ⟨rfl, hn⟩ | ⟨rfl, rfl⟩
      · exact X.ext (fun q hq => setE_ne _ _ (fun h => hn (h ▸ hq))) h1
      · exact ⟨by rw [setE_same]; exact h1.1, h1.2⟩
  | [], _ :: _, _, h, _ => h.elim
  | _ :: _, [], _, h, _ => h.elim
section
variable {P : Program} {x : Code} {Q : Exit → Act → World → Prop} {ctx : Ctx} {n : Nat} {g : List (Nat × T)} {E : List (Nat × Option Ent)}
/-- A row of one's own whose slice lies in a box gets another name. -/
theorem pn_renb {α : Type} {c : Cod α} {l : List α} {τ et : TypeId} {bl bl' : List T} {K : Act → World → Prop} (f e e' : Nat) (hE : lkE E e' = some (Ent.row c τ l)) (hB : lkE E f = some (Ent.box et bl)) (hr : RenC e e' bl bl') (hf : ((nsOf g ++ nsE E ++ ctx.I).contains e) = false) (hfe : Nat.beq f e' = false := by rfl) (h : PN ctx n K g ((f, some (Ent.box et bl')) :: (e, some (Ent.row c τ l)) :: (e', none) :: E)) : PN ctx n K g E := fun a w hS => h a w (by
  obtain ⟨β, u, F, h1, h2, h3, h4, h5, h6, h7⟩ := hS
  have hfr : e ∉ nsOf g ∧ e ∉ nsE E ∧ e ∉ ctx.I := by
    simp only [List.contains_eq_mem, decide_eq_false_iff_not, List.mem_append, not_or] at hf
    exact ⟨hf.1.1, hf.1.2, hf.2⟩
  have hne : e ≠ e' := fun h => hfr.2.1 (h ▸ (lkE_base hE).1)
  have hfn : f ≠ e := fun h => hfr.2.1 (h ▸ (lkE_base hB).1)
  have hfe' : f ≠ e' := fun h => by subst h; simp at hfe
  have hb : ∀ q, q ≠ e → setE β e (β e') q = β q := fun q hne => setE_ne _ _ hne
  have hlk : ∀ q, lkE ((f, some (Ent.box et bl')) :: (e, some (Ent.row c τ l)) :: (e', none) :: E) q = if f = q then some (Ent.box et bl') else if e = q then some (Ent.row c τ l) else if e' = q then none else lkE E q := fun q => by
    unfold lkE
    rw [lk_cons, lk_cons, lk_cons]
    by_cases h0 : f = q
    · rw [if_pos h0, if_pos h0]; rfl
    · rw [if_neg h0, if_neg h0]
      by_cases h : e = q
      · rw [if_pos h, if_pos h]; rfl
      · rw [if_neg h, if_neg h]
        by_cases h2 : e' = q
        · rw [if_pos h2, if_pos h2]; rfl
        · rw [if_neg h2, if_neg h2]
  have key : ∀ q X, lkE ((f, some (Ent.box et bl')) :: (e, some (Ent.row c τ l)) :: (e', none) :: E) q = some X → (q = f ∧ X = Ent.box et bl') ∨ (q = e ∧ X = Ent.row c τ l) ∨ (q ≠ e ∧ q ≠ e' ∧ q ≠ f ∧ lkE E q = some X) := fun q X hX => by
    rw [hlk] at hX
    split at hX
    · rename_i h; cases hX; exact .inl ⟨h.symm, rfl⟩
    · split at hX
      · rename_i h; cases hX; exact .inr (.inl ⟨h.symm, rfl⟩)
      · split at hX
        · cases hX
        · rename_i h0 h h2; exact .inr (.inr ⟨Ne.symm h, Ne.symm h2, Ne.symm h0, hX⟩)
  -- the source of a footprint: an old entry
  let src : Nat → Nat := fun q => if q = e then e' else q
  have hsrc : ∀ q X, lkE ((f, some (Ent.box et bl')) :: (e, some (Ent.row c τ l)) :: (e', none) :: E) q = some X → ∃ Y, lkE E (src q) = some Y := fun q X hX => by
    rcases key q X hX with ⟨rfl, rfl⟩ | ⟨rfl, rfl⟩ | ⟨n1, n2, n3, hX'⟩
    · exact ⟨_, by simp only [src, if_neg hfn]; exact hB⟩
    · exact ⟨_, by simp only [src, if_pos]; exact hE⟩
    · exact ⟨_, by simp only [src, if_neg n1]; exact hX'⟩
  have hinj : ∀ q p X Y, lkE ((f, some (Ent.box et bl')) :: (e, some (Ent.row c τ l)) :: (e', none) :: E) q = some X → lkE ((f, some (Ent.box et bl')) :: (e, some (Ent.row c τ l)) :: (e', none) :: E) p = some Y → q ≠ p → src q ≠ src p := fun q p X Y hX hY hn => by
    have nq : q ≠ e' := by
      rcases key q X hX with ⟨rfl, _⟩ | ⟨rfl, _⟩ | ⟨_, n2, _, _⟩
      · exact hfe'
      · exact hne
      · exact n2
    have np : p ≠ e' := by
      rcases key p Y hY with ⟨rfl, _⟩ | ⟨rfl, _⟩ | ⟨_, n2, _, _⟩
      · exact hfe'
      · exact hne
      · exact n2
    simp only [src]
    split <;> split
    · rename_i a1 a2; exact absurd (a1.trans a2.symm) hn
    · exact fun h => np h.symm
    · exact nq
    · exact hn
  refine ⟨setE β e (β e'), u, fun q k => F (src q) k, h1, h2, fun t' X hX => ?_, ⟨fun q X hX => ?_, fun q X k hX hk => ?_, fun q p X Y k hX hY hn hk hk' => ?_⟩, h5, fun q X k hX hk => ?_, fun q hq => (hb q (fun h => hfr.2.2 (h ▸ hq))).trans (h7 q hq)⟩
  · obtain ⟨v, q1, q2⟩ := h3 t' X hX
    exact ⟨v, q1, X.ext (fun q hq => hb q (fun h => hfr.1 (h ▸ lk_base hX q hq))) q2⟩
  · rcases key q X hX with ⟨rfl, rfl⟩ | ⟨rfl, rfl⟩ | ⟨n1, n2, n3, hX'⟩
    · rw [hb _ hfn, show (fun k => F (src q) k) = F q from funext fun k => by simp only [src, if_neg hfn]]
      obtain ⟨b, cs, k1, k2, k3, k4⟩ := h4.hold _ _ hB
      exact ⟨b, cs, k1, k2, k3, hr.cells k4⟩
    · rw [setE_same, show (fun k => F (src q) k) = F e' from funext fun k => by simp only [src, if_pos]]
      exact (Ent.row c τ l).ext (fun q hq => by cases hq) (h4.hold e' _ hE)
    · rw [hb q n1, show (fun k => F (src q) k) = F q from funext fun k => by simp only [src, if_neg n1]]
      exact X.ext (fun p hp => hb p (fun h => hfr.2.1 (h ▸ (lkE_base hX').2 p hp))) (h4.hold q X hX')
  · obtain ⟨Y, hY⟩ := hsrc q X hX
    exact h4.dead _ Y k hY hk
  · obtain ⟨X', hX'⟩ := hsrc q X hX
    obtain ⟨Y', hY'⟩ := hsrc p Y hY
    exact h4.apart _ _ X' Y' k hX' hY' (hinj q p X Y hX hY hn) hk hk'
  · obtain ⟨Y, hY⟩ := hsrc q X hX
    exact h6 _ Y k hY hk)
end
section
variable {P : Program} {ops : Array Oper} {fin : List OpS → List (Nat × T) → List (Nat × Option Ent) → Prop} {r : List Oper} {H : List OpS} {g : List (Nat × T)} {E : List (Nat × Option Ent)} {o : Oper}
variable {t : Option Nat} {ty : TypeId} {ps : String} {af : Array Edge} {gd : Option (Nat × Bool)} {x y : Operand} {X Y : T} {e off m n : Nat} {b : Bool} {et : TypeId}
variable {α : Type} {c : Cod α} {xs ys : List α}
end
/-- A nil slice in a box is a row. -/
def NilC (e : Nat) : List T → List T → Prop
  | [], [] => True
  | X :: r, Y :: s => ((X = Y ∧ e ∉ X.ns) ∨ (X = T.c (.slice none 0 0) ∧ Y = T.o e)) ∧ NilC e r s
  | _, _ => False
theorem NilC.cells {e : Nat} {β : Env} {u : World} : ∀ {l l' : List T} {cs : List Value}, NilC e l l' → Cells β u l cs → Cells (setE β e (.slice none 0 0)) u l' cs
  | [], [], _, _, h => h
  | X :: r, Y :: s, cs, ⟨k1, k2⟩, ⟨v, rest, h0, h1, he, h2⟩ => by
    refine ⟨v, rest, ?_, ?_, he, NilC.cells k2 h2⟩
    · rcases k1 with ⟨rfl, _⟩ | ⟨_, rfl⟩
      · exact h0
      · show (1 : Nat) ≠ 0; omega
    · rcases k1 with ⟨rfl, hn⟩ | ⟨rfl, rfl⟩
      · exact X.ext (fun q hq => setE_ne _ _ (fun h => hn (h ▸ hq))) h1
      · exact ⟨by rw [setE_same]; exact h1, _, _, _, h1⟩
  | [], _ :: _, _, h, _ => h.elim
  | _ :: _, [], _, h, _ => h.elim
theorem tri_nilb {P : Program} {x : Code} {Q : Exit → Act → World → Prop} {ctx : Ctx} {n : Nat} {g : List (Nat × T)} {E : List (Nat × Option Ent)} {α : Type} (c : Cod α) {et : TypeId} (τ : TypeId) {bl bl' : List T} (f e : Nat) (hB : lkE E f = some (Ent.box et bl)) (hr : NilC e bl bl') (hf : ((nsOf g ++ nsE E ++ ctx.I).contains e) = false) (h : Tri P x Q ctx n g ((f, some (Ent.box et bl')) :: (e, some (Ent.row c τ [])) :: E)) : Tri P x Q ctx n g E := fun a w hS => h a w (by
  obtain ⟨β, u, F, h1, h2, h3, h4, h5, h6, h7⟩ := hS
  have hfr : e ∉ nsOf g ∧ e ∉ nsE E ∧ e ∉ ctx.I := by
    simp only [List.contains_eq_mem, decide_eq_false_iff_not, List.mem_append, not_or] at hf
    exact ⟨hf.1.1, hf.1.2, hf.2⟩
  have hfn : f ≠ e := fun h => hfr.2.1 (h ▸ (lkE_base hB).1)
  have hb : ∀ q, q ≠ e → setE β e (.slice none 0 0) q = β q := fun q hne => setE_ne _ _ hne
  have hlk : ∀ q, lkE ((f, some (Ent.box et bl')) :: (e, some (Ent.row c τ [])) :: E) q = if f = q then some (Ent.box et bl') else if e = q then some (Ent.row c τ []) else lkE E q := fun q => by
    unfold lkE
    rw [lk_cons, lk_cons]
    by_cases h0 : f = q
    · rw [if_pos h0, if_pos h0]; rfl
    · rw [if_neg h0, if_neg h0]
      by_cases h : e = q
      · rw [if_pos h, if_pos h]; rfl
      · rw [if_neg h, if_neg h]
  have key : ∀ q X, lkE ((f, some (Ent.box et bl')) :: (e, some (Ent.row c τ [])) :: E) q = some X → (q = f ∧ X = Ent.box et bl') ∨ (q = e ∧ X = Ent.row c τ []) ∨ (q ≠ e ∧ q ≠ f ∧ lkE E q = some X) := fun q X hX => by
    rw [hlk] at hX
    split at hX
    · rename_i h; cases hX; exact .inl ⟨h.symm, rfl⟩
    · split at hX
      · rename_i h; cases hX; exact .inr (.inl ⟨h.symm, rfl⟩)
      · rename_i h0 h; exact .inr (.inr ⟨Ne.symm h, Ne.symm h0, hX⟩)
  have old : ∀ q X, lkE ((f, some (Ent.box et bl')) :: (e, some (Ent.row c τ [])) :: E) q = some X → q ≠ e → ∃ Y, lkE E q = some Y := fun q X hX hn => by
    rcases key q X hX with ⟨rfl, rfl⟩ | ⟨h, _⟩ | ⟨_, _, hX'⟩
    · exact ⟨_, hB⟩
    · exact absurd h hn
    · exact ⟨_, hX'⟩
  refine ⟨setE β e (.slice none 0 0), u, fun q k => F q k ∧ q ≠ e, h1, h2, fun t' X hX => ?_, ⟨fun q X hX => ?_, fun q X k hX hk => ?_, fun q p X Y k hX hY hn hk hk' => ?_⟩, h5, fun q X k hX hk => ?_, fun q hq => (hb q (fun h => hfr.2.2 (h ▸ hq))).trans (h7 q hq)⟩
  · obtain ⟨v, q1, q2⟩ := h3 t' X hX
    exact ⟨v, q1, X.ext (fun q hq => hb q (fun h => hfr.1 (h ▸ lk_base hX q hq))) q2⟩
  · rcases key q X hX with ⟨rfl, rfl⟩ | ⟨rfl, rfl⟩ | ⟨n1, n3, hX'⟩
    · rw [hb _ hfn, show (fun k => F q k ∧ q ≠ e) = F q from funext fun k => by simp [hfn]]
      obtain ⟨b, cs, k1, k2, k3, k4⟩ := h4.hold _ _ hB
      exact ⟨b, cs, k1, k2, k3, hr.cells k4⟩
    · rw [setE_same]
      exact ⟨[], World.ownsRow_nil _ _ _ _, rfl, fun k => ⟨fun h => absurd rfl h.2, fun h => by cases h⟩⟩
    · rw [hb q n1, show (fun k => F q k ∧ q ≠ e) = F q from funext fun k => by simp [n1]]
      exact X.ext (fun p hp => hb p (fun h => hfr.2.1 (h ▸ (lkE_base hX').2 p hp))) (h4.hold q X hX')
  · obtain ⟨Y, hY⟩ := old q X hX hk.2
    exact h4.dead q Y k hY hk.1
  · obtain ⟨X', hX'⟩ := old q X hX hk.2
    obtain ⟨Y', hY'⟩ := old p Y hY hk'.2
    exact h4.apart q p X' Y' k hX' hY' hn hk.1 hk'.1
  · obtain ⟨Y, hY⟩ := old q X hX hk.2
    exact h6 q Y k hY hk.1)
end Go.Proofs.YtekghdfbhbhigaaGreatDoor.V
/- Data of rows: what the program reckons, and how large it grows. -/
set_option linter.unusedVariables false
namespace Go.Proofs.YtekghdfbhbhigaaGreatDoor.V
open Mt Nml
/-- The sum of products, so far. -/
def dotU (xs ys : List Int) : Nat → Int
  | 0 => 0
  | i + 1 => dotU xs ys i + xs.getD i 0 * ys.getD i 0
def stepU (D Lr row : List Int) (k : Nat) (u : Int) : Int := Int.fdiv (D.getD (k + 1) 0 * u - row.getD k 0 * Lr.getD k 0) (D.getD k 0)
def redU (D Lr row : List Int) (u : Int) : Nat → Int
  | 0 => u
  | k + 1 => stepU D Lr row k (redU D Lr row u k)
def pickL (L : List (List Int)) (row : List Int) (i j : Nat) : List Int := if j < i then L.getD j [] else row
def rowU (b : List (List Int)) (D : List Int) (L : List (List Int)) (i : Nat) : Nat → List Int
  | 0 => []
  | j + 1 => rowU b D L i j ++ [redU D (pickL L (rowU b D L i j) i j) (rowU b D L i j) (dotU (b.getD i []) (b.getD j []) (b.getD i []).length) j]
/-- How large. -/
def bd (S k : Nat) : Nat := (S + 1) * 2 ^ k - 1
theorem bd_succ (S k : Nat) : bd S (k + 1) = 2 * bd S k + 1 := by
  have h : 1 ≤ (S + 1) * 2 ^ k := Nat.mul_pos (by omega) (Nat.two_pow_pos k)
  unfold bd
  rw [Nat.pow_succ, ← Nat.mul_assoc]
  omega
theorem bd_zero (S : Nat) : bd S 0 = S := by unfold bd; omega
theorem zl_add_max {a b : Int} {k : Nat} (h : zl a ≤ k) (h' : zl b ≤ k) : zl (a + b) ≤ k + 1 := by
  unfold zl at *
  refine Nat.le_trans (lim_mono (Int.natAbs_add_le a b)) (lim_le ?_)
  have h1 := lt_B_lim a.natAbs
  have h2 := lt_B_lim b.natAbs
  have m1 := B_mono h
  have m2 := B_mono h'
  rw [B_succ]
  have := B_pos k
  omega
theorem zl_sub_max {a b : Int} {k : Nat} (h : zl a ≤ k) (h' : zl b ≤ k) : zl (a - b) ≤ k + 1 := by rw [Int.sub_eq_add_neg]; exact zl_add_max h (zl_neg h')
theorem zl_fdiv {x y : Int} {k : Nat} (hy : 0 < y) (h : zl x ≤ k) : zl (Int.fdiv x y) ≤ k := by rw [Int.fdiv_eq_ediv_of_nonneg _ (by omega)]; exact zl_div y h
theorem stepU_bd {D Lr row : List Int} {k : Nat} {u : Int} {S : Nat} (hp : 0 < D.getD k 0) (h1 : zl (D.getD (k + 1) 0) ≤ bd S k) (h2 : zl u ≤ bd S k) (h3 : zl (row.getD k 0) ≤ bd S k) (h4 : zl (Lr.getD k 0) ≤ bd S k) : zl (stepU D Lr row k u) ≤ bd S (k + 1) := by
  rw [bd_succ, Nat.two_mul]
  exact zl_fdiv hp (zl_sub_max (zl_mul h1 h2) (zl_mul h3 h4))
theorem gl_lt {α : Type} {l : List α} {x d : α} {k : Nat} (h : k < l.length) : (l ++ [x]).getD k d = l.getD k d := by
  rw [List.getD_eq_getElem?_getD, List.getElem?_append_left h, List.getD_eq_getElem?_getD]
theorem gl_eq {α : Type} {l : List α} {x d : α} {k : Nat} (h : k = l.length) : (l ++ [x]).getD k d = x := by
  subst h
  rw [List.getD_eq_getElem?_getD, List.getElem?_append_right (Nat.le_refl _), Nat.sub_self]; rfl
theorem take_getD {l : List Int} {i k : Nat} (h : k < i) : (l.take i).getD k 0 = l.getD k 0 := by
  rw [List.getD_eq_getElem?_getD, List.getElem?_take, if_pos h, List.getD_eq_getElem?_getD]
/-- What is so of the data of the first rows. -/
structure BI (S i : Nat) (D : List Int) (L : List (List Int)) : Prop where
  hD : D.length = i + 1
  hL : L.length = i
  pos : ∀ k, k ≤ i → 0 < D.getD k 0
  bD : ∀ k, k < i → zl (D.getD (k + 1) 0) ≤ bd S k
  lL : ∀ j, j < i → (L.getD j []).length = j
  bL : ∀ j k, j < i → k < j → zl ((L.getD j []).getD k 0) ≤ bd S k
/-- What is so of the next row, so far. -/
structure RI (S j : Nat) (row : List Int) : Prop where
  len : row.length = j
  bd : ∀ k, k < j → zl (row.getD k 0) ≤ bd S k
theorem BI.zero (S : Nat) : BI S 0 [1] [] := ⟨rfl, rfl, fun k hk => by rw [show k = 0 by omega]; decide, fun k hk => absurd hk (Nat.not_lt_zero _), fun k hk => absurd hk (Nat.not_lt_zero _), fun j k hj => absurd hj (Nat.not_lt_zero _)⟩
theorem RI.zero (S : Nat) : RI S 0 [] := ⟨rfl, fun k hk => absurd hk (Nat.not_lt_zero _)⟩
theorem RI.snoc {S j : Nat} {row : List Int} {u : Int} (h : RI S j row) (hu : zl u ≤ V.bd S j) : RI S (j + 1) (row ++ [u]) := ⟨by rw [List.length_append, h.len]; rfl, fun k hk => by
  rcases Nat.lt_or_ge k j with h1 | h1
  · rw [gl_lt (by rw [h.len]; exact h1)]; exact h.bd k h1
  · rw [gl_eq (by rw [h.len]; omega), show k = j by omega]; exact hu⟩
theorem red_bd {S i j k : Nat} {D : List Int} {L : List (List Int)} {row : List Int} {u : Int} (hB : BI S i D L) (hR : RI S j row) (hj : j ≤ i) (hu : zl u ≤ S) : k ≤ j → zl (redU D (pickL L row i j) row u k) ≤ V.bd S k := by
  induction k with
  | zero => intro _; rw [bd_zero]; exact hu
  | succ k ih =>
    intro hk
    refine stepU_bd (hB.pos k (by omega)) (hB.bD k (by omega)) (ih (by omega)) (hR.bd k (by omega)) ?_
    unfold pickL
    split
    · exact hB.bL j k (by assumption) (by omega)
    · exact hR.bd k (by omega)
theorem BI.step {S i : Nat} {D : List Int} {L : List (List Int)} {row : List Int} (h : BI S i D L) (hR : RI S (i + 1) row) (hp : 0 < row.getD i 0) : BI S (i + 1) (D ++ [row.getD i 0]) (L ++ [row.take i]) := by
  refine ⟨by rw [List.length_append, h.hD]; rfl, by rw [List.length_append, h.hL]; rfl, fun k hk => ?_, fun k hk => ?_, fun j hj => ?_, fun j k hj hk => ?_⟩
  · rcases Nat.lt_or_ge k (i + 1) with h1 | h1
    · rw [gl_lt (by rw [h.hD]; exact h1)]; exact h.pos k (by omega)
    · rw [gl_eq (by rw [h.hD]; omega)]; exact hp
  · rcases Nat.lt_or_ge k i with h1 | h1
    · rw [gl_lt (by rw [h.hD]; omega)]; exact h.bD k h1
    · rw [gl_eq (by rw [h.hD]; omega), show k = i by omega]; exact hR.bd i (by omega)
  · rcases Nat.lt_or_ge j i with h1 | h1
    · rw [gl_lt (by rw [h.hL]; exact h1)]; exact h.lL j h1
    · rw [gl_eq (by rw [h.hL]; omega), List.length_take, hR.len]; omega
  · rcases Nat.lt_or_ge j i with h1 | h1
    · rw [gl_lt (by rw [h.hL]; exact h1)]; exact h.bL j k h1 hk
    · rw [gl_eq (by rw [h.hL]; omega), take_getD (by omega)]; exact hR.bd k (by omega)
end Go.Proofs.YtekghdfbhbhigaaGreatDoor.V
/- Contracts: what the law calls, sums of products. -/
set_option linter.unusedVariables false
set_option linter.unusedSimpArgs false
set_option maxRecDepth 100000
namespace Go.Proofs.YtekghdfbhbhigaaGreatDoor.V
open Go.RowKit Mt Nml
section
variable {P : Program} {x : Code} {Q : Exit → Act → World → Prop} {ctx : Ctx} {n : Nat} {g : List (Nat × T)} {E : List (Nat × Option Ent)}
theorem tri_z (t : Nat) {z : Int} {k : Nat} (ht : lk g t = some (T.Z z k)) (h : zl z ≤ k → Tri P x Q ctx n g E) : Tri P x Q ctx n g E := fun a w hS => by
  have hS' := hS
  obtain ⟨β, u, F, h1, h2, h3, _⟩ := hS'
  obtain ⟨v, _, _, hz, _⟩ := h3 t _ ht
  exact h hz a w hS
end
theorem box_pack1 {et : TypeId} {X Y : T} (h : X.le Y) (h0 : X.sz = Y.sz := by rfl) : (Ent.box et [X]).le (Ent.box et [Y]) := fun β u w v F ⟨b, cs, h1, h2, h3, h4⟩ => ⟨b, cs, h1, h2, h3, cells_le h4 ⟨h, trivial⟩ (by simp [h0])⟩

end Go.Proofs.YtekghdfbhbhigaaGreatDoor.V
/- The data of rows. -/
set_option linter.unusedVariables false
set_option linter.unusedSimpArgs false
set_option maxRecDepth 100000
namespace Go.Proofs.YtekghdfbhbhigaaGreatDoor.V
open Go.RowKit Mt Nml
instance (k : Nat) (z : Int) : IsZ ((cZ k).X z) z k := inferInstanceAs (IsZ (T.Z z k) z k)
instance (k : Nat) (z : Int) : IsZ ((cZi k).X z) z k := inferInstanceAs (IsZ (T.Zi z k) z k)
/-- A row in a box that is written to no more. -/
def RdC (e : Nat) (X' : T) : List T → List T → Prop
  | [], [] => True
  | X :: r, Y :: s => (X = Y ∨ (X = T.o e ∧ Y = X')) ∧ RdC e X' r s
  | _, _ => False
theorem RdC.cells {e : Nat} {X' : T} {β : Env} {u : World} (h0 : X'.sz ≠ 0) (h : ∀ v, v = β e → X'.rep β u v) : ∀ {l l' : List T} {cs : List Value}, RdC e X' l l' → Cells β u l cs → Cells β u l' cs
  | [], [], _, _, h => h
  | X :: r, Y :: s, cs, ⟨k1, k2⟩, ⟨v, rest, h1, h2, he, h3⟩ => by
    rcases k1 with rfl | ⟨rfl, rfl⟩
    · exact ⟨v, rest, h1, h2, he, RdC.cells h0 h k2 h3⟩
    · exact ⟨v, rest, h0, h v h2.1, he, RdC.cells h0 h k2 h3⟩
  | [], _ :: _, _, h, _ => h.elim
  | _ :: _, [], _, h, _ => h.elim
section
variable {P : Program} {x : Code} {Q : Exit → Act → World → Prop} {ctx : Ctx} {n : Nat} {g : List (Nat × T)} {E : List (Nat × Option Ent)}
theorem tri_rdb {α : Type} {c : Cod α} {l : List α} {et : TypeId} {bl bl' : List T} (f e : Nat) (hE : lkE E e = some (Ent.frz c l)) (hB : lkE E f = some (Ent.box et bl)) (hr : RdC e (T.l c l) bl bl') (h : Tri P x Q ctx n g ((f, some (Ent.box et bl')) :: E)) : Tri P x Q ctx n g E := fun a w hS => h a w (by
  obtain ⟨β, u, F, h1, h2, h3, h4, h5, h6, h7⟩ := hS
  have hlk : ∀ q, lkE ((f, some (Ent.box et bl')) :: E) q = if f = q then some (Ent.box et bl') else lkE E q := fun q => by
    unfold lkE
    rw [lk_cons]
    by_cases h0 : f = q
    · rw [if_pos h0, if_pos h0]; rfl
    · rw [if_neg h0, if_neg h0]
  have old : ∀ q X, lkE ((f, some (Ent.box et bl')) :: E) q = some X → ∃ Y, lkE E q = some Y := fun q X hX => by
    rw [hlk] at hX
    split at hX
    · rename_i h; subst h; exact ⟨_, hB⟩
    · exact ⟨_, hX⟩
  refine ⟨β, u, F, h1, h2, h3, ⟨fun q X hX => ?_, fun q X k hX hk => ?_, fun q p X Y k hX hY hn hk hk' => ?_⟩, h5, fun q X k hX hk => ?_, h7⟩
  · rw [hlk] at hX
    split at hX
    · rename_i hq
      subst hq
      cases hX
      obtain ⟨b, cs, k1, k2, k3, k4⟩ := h4.hold _ _ hB
      have hfz := (h4.hold e _ hE).2
      exact ⟨b, cs, k1, k2, k3, RdC.cells (by show (1 : Nat) ≠ 0; omega) (fun v hv => (T.l c l).ext (β := B0) (fun _ h => by cases h) (by rw [hv]; exact hfz)) hr k4⟩
    · exact h4.hold q X hX
  · obtain ⟨Y, hY⟩ := old q X hX; exact h4.dead q Y k hY hk
  · obtain ⟨X', hX'⟩ := old q X hX
    obtain ⟨Y', hY'⟩ := old p Y hY
    exact h4.apart q p X' Y' k hX' hY' hn hk hk'
  · obtain ⟨Y, hY⟩ := old q X hX; exact h6 q Y k hY hk)
end

end Go.Proofs.YtekghdfbhbhigaaGreatDoor.V
/- What a basis is; the law is awake. -/
set_option linter.unusedVariables false
set_option linter.unusedSimpArgs false
set_option maxRecDepth 100000
namespace Go.Proofs.YtekghdfbhbhigaaGreatDoor.V
open Go.RowKit Mt Nml
/-- The most bits. -/
def mxB (l : List Int) (a : Nat) : Nat → Nat
  | 0 => a
  | j + 1 => max (mxB l a j) (nbits (l.getD j 0).natAbs)
def matB (b : List (List Int)) : Nat → Nat
  | 0 => 0
  | i + 1 => mxB (b.getD i []) (matB b i) (b.getD i []).length

end Go.Proofs.YtekghdfbhbhigaaGreatDoor.V
/- The law of the parts of data. -/
set_option linter.unusedVariables false
set_option linter.unusedSimpArgs false
set_option maxRecDepth 100000
namespace Go.Proofs.YtekghdfbhbhigaaGreatDoor.V
open Go.RowKit Mt Nml
end Go.Proofs.YtekghdfbhbhigaaGreatDoor.V
/- What is read of the arguments of a law: whole numbers, lists of them, lists of lists, data of rows. -/
set_option linter.unusedVariables false
set_option linter.unusedSimpArgs false
namespace Go.Proofs.YtekghdfbhbhigaaGreatDoor.V
open Go.Deep Go.ChangeShapes Go.WideShapes Go.ChangeAt Go.RowKit Mt Nml

section
variable {H : Type} {enc : TypeId × Value → H} {W : World} {base : Nat} {spare : Nat → Bool} {held : Bool} {fuel : Nat} {cs : List Value} {x : DataW H × List MemPlace}
theorem bulk_lits (k : IntKind) : ∀ l : List Int, Rows.uptoBulkAll (H := H) (lits k l) = l.length
  | [] => rfl
  | a :: l => by
    show Rows.uptoBulk (DataW.lit (H := H) (.int k a)) + Rows.uptoBulkAll (lits k l) = _
    rw [bulk_lits k l, List.length_cons]
    show 1 + l.length = _
    omega
theorem read_lims (h : DataW.trod enc Tryz.prog W base spare held fuel 22 cs = some x) : ∃ v xs, cs = [v] ∧ (T.l cU xs).rep B0 W v ∧ Lim xs ∧ xs.length ≤ Rows.uptoBulk x.1 := by
  rcases open_ints Tryz.underlying22 Tryz.underlying78 (by kernel_rfl) h with ⟨rfl, rfl⟩ | ⟨a, len, cap, zs, rfl, _, hl, hm, hz, rfl, hcell, hwz⟩
  · exact ⟨_, [], rfl, nil_l cU _ _ _ rfl, Lim.nil, Nat.zero_le _⟩
  · have hz' : len ≤ zs.length := by rw [hz]; split <;> omega
    have hb : (zs.take len).length = len := by rw [List.length_take]; omega
    have hlim : Lim (zs.take len) := fun z hz0 => by
      have := hwz z (List.mem_of_mem_take hz0)
      have e0 : IntKind.u32.min = 0 := by kernel_rfl
      have e1 : IntKind.u32.max = 4294967295 := by kernel_rfl
      simp [Lit.wf] at this
      constructor <;> omega
    refine ⟨_, zs.take len, rfl, ⟨some a, len, cap, rfl, hb, hl, by unfold maxLen at hm; omega, fun hp => ⟨a, rfl, _, els_cU _ _, fun j y hy => ?_⟩⟩, hlim, ?_⟩
    · rw [List.getElem?_map, Option.map_eq_some_iff] at hy
      obtain ⟨z, h1, rfl⟩ := hy
      have hj : j < len := by rw [← hb]; exact (List.getElem?_eq_some_iff.1 h1).1
      rw [hcell j (by omega), List.getD_eq_getElem?_getD, ← List.getElem?_take_of_lt hj, h1]; rfl
    · show _ ≤ Rows.uptoBulkAll (lits .u32 (zs.take len)) + _ + 1
      rw [bulk_lits]; omega
set_option maxRecDepth 100000 in
theorem read_Zi {k : Nat} (h : DataW.trod enc Tryz.prog W base spare held fuel 24 cs = some x) (hk : Rows.uptoBulk x.1 ≤ k) : ∃ z, (T.Zi z k).rep B0 W (.agg cs.toArray) := by
  obtain ⟨y0, y1, m, rfl, hl, h0, h1⟩ := trod_struct2 Tryz.underlying24 h
  have hl2 : cs.length = 2 := hl.trans (by kernel_rfl)
  match cs, hl2 with
  | [c0, c1], _ =>
    obtain ⟨s, e0, _⟩ := DataW.trod_bool Tryz.underlying4 h0
    obtain ⟨v, xs, e1, hr, hli, hn⟩ := read_lims h1
    have k0 : (([c0, c1] : List Value).drop 0).take (Tryz.prog.cellsOf 4) = [c0] := by rw [show Tryz.prog.cellsOf 4 = 1 from by kernel_rfl]; rfl
    have k1 : (([c0, c1] : List Value).drop 1).take (Tryz.prog.cellsOf 22) = [c1] := by rw [show Tryz.prog.cellsOf 22 = 1 from by kernel_rfl]; rfl
    have e0' : [c0] = [Value.bool s] := k0.symm.trans e0
    have e1' : [c1] = [v] := k1.symm.trans e1
    cases e0'
    cases e1'
    have hk' : Rows.uptoBulk y1.1 ≤ k := by
      have : Rows.uptoBulk y0.1 + (Rows.uptoBulk y1.1 + 0) + 1 ≤ k := hk
      omega
    refine ⟨_, (s, xs), ⟨hli, rfl, Nat.le_trans hn hk'⟩, [.bool s, c1], rfl, .bool s, [c1], by show (1 : Nat) ≠ 0; omega, rfl, rfl, c1, [], by show (1 : Nat) ≠ 0; omega, hr, ?_, rfl⟩
    obtain ⟨A, n, q, rfl, _⟩ := hr
    rfl
end
/-- A function that leaves what it found: what its caller sees. -/
theorem fn_calls_of {P : Program} {f : FuncId} {As : List T} {v : Value} (h : Fn P f As [] [] [] (T.c v)) {W : World} {vs : List Value} (hr : Reps B0 W As vs) : Calls P f vs.toArray W fun e w' => e = .returned v ∧ Below W.heap.size W w' :=
  (h vs B0 W W (fun _ _ => False) (Sub.refl W) hr (Hold.none _ _ _ _)).mono fun e w' ⟨v', he, u', β', F', h1, h2, h3, h4, h5⟩ => ⟨by rw [he, show v' = v from h5], ⟨h2.os, h2.tape, h2.output, h2.size, fun k hk => h2.block k hk (fun ⟨c, hc, _⟩ => by cases hc)⟩⟩
end Go.Proofs.YtekghdfbhbhigaaGreatDoor.V
/- Shifts of whole numbers. -/
set_option linter.unusedVariables false
set_option linter.unusedSimpArgs false
set_option maxRecDepth 100000
namespace Go.Proofs.YtekghdfbhbhigaaGreatDoor.V
open Go.RowKit Mt Nml
end Go.Proofs.YtekghdfbhbhigaaGreatDoor.V
/- Sums and products of fractions. -/
set_option linter.unusedVariables false
set_option linter.unusedSimpArgs false
set_option maxRecDepth 100000
namespace Go.Proofs.YtekghdfbhbhigaaGreatDoor.V
open Go.RowKit Mt Nml
section
variable {P : Program} {x : Code} {Q : Exit → Act → World → Prop} {ctx : Ctx} {n : Nat} {g : List (Nat × T)} {E : List (Nat × Option Ent)}
/-- A box that is written to no more: its pointer tells a place that stands. -/
theorem tri_fzb {et : TypeId} {l : List T} (t e : Nat) (ht : lk g t = some (T.p e 0)) (hE : lkE E e = some (Ent.box et l)) (hl : szs l ≠ 0) (h : Tri P x Q ctx n ((t, T.fp (T.st l)) :: g) ((e, none) :: E)) : Tri P x Q ctx n g E := fun a w hS => h a w (by
  obtain ⟨β, u, F, h1, h2, h3, h4, h5, h6, h7⟩ := hS
  obtain ⟨b, cs, k1, k2, k3, k4⟩ := h4.hold e _ hE
  have hs := h5.sub
  have hd : ∀ k, F e k → Dead u k := fun k hk => (h4.dead e _ k hE hk).1
  have hup := solid_up hs hd
  have hlk : ∀ f X, lkE ((e, none) :: E) f = some X → f ≠ e ∧ lkE E f = some X := fun f X hX => by
    unfold lkE at hX
    rw [lk_cons] at hX
    split at hX
    · cases hX
    · rename_i hne; exact ⟨Ne.symm hne, hX⟩
  refine ⟨β, solid u w (F e), F, h1, h2, fun t' X hX => ?_, ⟨fun f X hX => ?_, fun f X k hX hk => ?_, fun f f' X Y k hX hY hne hk hk' => ?_⟩, ⟨h5.os, h5.tape, h5.output, h5.size, h5.block, h5.old.trans hup, solid_sub hs, fun k hk hc hdk => solid_dead hs (fun hk' => ?_) (h5.dead k hk hc hdk)⟩, fun f X k hX hk => ?_, h7⟩
  · rw [lk_cons] at hX
    split at hX
    · rename_i e1
      subst e1
      cases hX
      obtain ⟨v, q1, b', q2, q3⟩ := h3 t _ ht
      have hb : b' = b := by rw [k1] at q2; cases q2; rfl
      subst hb
      refine ⟨v, q1, ⟨b', 0, none⟩, .agg cs.toArray, q3, hl, ⟨cs, rfl, k4.mono hup⟩, fun j y hy => ?_⟩
      rw [add_none, Nat.zero_add, solid_in hs ((k2 b').2 rfl), cell_of_row w b' j _ et (0, 0) k3]
      simpa [Value.cells] using hy
    · obtain ⟨v, q1, q2⟩ := h3 t' X hX
      exact ⟨v, q1, X.mono hup q2⟩
  · obtain ⟨hne, hX'⟩ := hlk f X hX
    exact X.mono hup (h4.hold f X hX')
  · obtain ⟨hne, hX'⟩ := hlk f X hX
    exact ⟨solid_dead hs (fun hk' => h4.apart f e X _ k hX' hE hne hk hk') (h4.dead f X k hX' hk).1, (h4.dead f X k hX' hk).2⟩
  · exact h4.apart f f' X Y k (hlk f X hX).2 (hlk f' Y hY).2 hne hk hk'
  · rcases h6 e _ k hE hk' with h8 | h8
    · exact hc h8
    · omega
  · exact h6 f X k (hlk f X hX).2 hk)
end
instance (k : Nat) (q : Rat) : Sp ((cQ k).X q) [T.Z q.num k, T.Z (q.den : Int) k] := inferInstanceAs (Sp (T.Q q k) _)
/-- A function value whose captured things hang on no memory of one's own. -/
def T.clo (f : FuncId) (Cs : List T) (h : Cs.flatMap (·.ns) = []) : T := ⟨[], 1, false, (T.fn f Cs).rep, (T.fn f Cs).shp, (T.fn f Cs).mono, fun _ hr => (T.fn f Cs).ext (fun e he => by rw [show (T.fn f Cs).ns = [] from h] at he; cases he) hr⟩
theorem clo_le {f : FuncId} {Cs : List T} {h : Cs.flatMap (·.ns) = []} : (T.fn f Cs).le (T.clo f Cs h) := fun _ _ _ k => k
theorem clo_ge {f : FuncId} {Cs : List T} {h : Cs.flatMap (·.ns) = []} : (T.clo f Cs h).le (T.fn f Cs) := fun _ _ _ k => k
theorem q_eq {q q' : Rat} {k k' : Nat} (h : q = q') (hk : k ≤ k') : (T.Q q k).le (T.Q q' k') := by subst h; exact st_le (l := [T.Z q.num k, T.Z (q.den : Int) k]) (l' := [T.Z q.num k', T.Z (q.den : Int) k']) ⟨z_mono hk, z_mono hk, trivial⟩
end Go.Proofs.YtekghdfbhbhigaaGreatDoor.V
/- The document: sums and products of fractions. -/
set_option linter.unusedVariables false
set_option linter.unusedSimpArgs false
set_option maxRecDepth 100000
namespace Go.Proofs.YtekghdfbhbhigaaGreatDoor.V
open Go.RowKit Mt Nml
end Go.Proofs.YtekghdfbhbhigaaGreatDoor.V
/- The squared length of a sum of rows, by the data: what is reckoned, and how large its parts are. -/
set_option linter.unusedVariables false
namespace Go.Proofs.YtekghdfbhbhigaaGreatDoor.V
open Mt Nml
theorem rat_ne {z : Int} (h : z ≠ 0) : (z : Rat) ≠ 0 := fun e => h (Rat.intCast_inj.1 (by rw [e]; rfl))
end Go.Proofs.YtekghdfbhbhigaaGreatDoor.V
/- The squared length of a sum of rows. -/
set_option linter.unusedVariables false
set_option linter.unusedSimpArgs false
set_option maxRecDepth 100000
namespace Go.Proofs.YtekghdfbhbhigaaGreatDoor.V
open Go.RowKit Mt Nml
theorem cells_zl {k : Nat} {u : World} : ∀ {l : List Int} {cs : List Value}, Cells B0 u (l.map (cZi k).X) cs → ∀ z ∈ l, zl z ≤ k
  | [], _, _, z, h => by cases h
  | a :: r, cs, ⟨v, rest, _, ⟨i, ⟨k1, k2, k3⟩, _⟩, _, h2⟩, z, h => by
    rcases List.mem_cons.1 h with rfl | h
    · obtain ⟨M, hM⟩ := Int.eq_ofNat_of_zero_le (val_nonneg k1)
      rw [k2, hM]
      exact z_bd (s := i.1) k1 hM k3
    · exact cells_zl h2 z h
theorem zl_zero : zl 0 = 0 := by unfold zl; exact lim_zero
theorem getD_zl {l : List Int} {k : Nat} (h : ∀ z ∈ l, zl z ≤ k) (j : Nat) : zl (l.getD j 0) ≤ k := by
  rw [List.getD_eq_getElem?_getD]
  cases hj : l[j]? with
  | none => rw [show (none : Option Int).getD 0 = 0 from rfl, zl_zero]; omega
  | some z => exact h z (List.mem_of_getElem? hj)
theorem l_zl {k : Nat} {β : Env} {u : World} {l : List Int} {v : Value} (h : (T.l (cZi k) l).rep β u v) : ∀ z ∈ l, zl z ≤ k := fun z hz => by
  obtain ⟨A, n, q, _, h1, _, _, h4⟩ := h
  have hp : 0 < n := by rw [← h1]; exact List.length_pos_of_mem hz
  obtain ⟨ad, _, xs, h5, _⟩ := h4 hp
  exact cells_zl h5 z hz
section
variable {P : Program} {x : Code} {Q : Exit → Act → World → Prop} {ctx : Ctx} {n : Nat} {g : List (Nat × T)} {E : List (Nat × Option Ent)}
theorem tri_lz (t : Nat) {l : List Int} {k : Nat} (ht : lk g t = some (T.l (cZi k) l)) (h : (∀ j, zl (l.getD j 0) ≤ k) → Tri P x Q ctx n g E) : Tri P x Q ctx n g E := fun a w hS => by
  have hS' := hS
  obtain ⟨β, u, F, h1, h2, h3, _⟩ := hS'
  obtain ⟨v, _, hr⟩ := h3 t _ ht
  exact h (getD_zl (l_zl hr)) a w hS
end
theorem q_qb {q q' : Rat} {k k' : Nat} (e : q = q') (h : QB q' k') : (T.Q q k).le (T.Q q' k') := by
  subst e
  exact st_le (l := [T.Z q.num k, T.Z (q.den : Int) k]) (l' := [T.Z q.num k', T.Z (q.den : Int) k']) ⟨z_as h.1, z_as h.2, trivial⟩
theorem QB.mono {q : Rat} {k k' : Nat} (h : QB q k) (hk : k ≤ k') : QB q k' := ⟨Nat.le_trans h.1 hk, Nat.le_trans h.2 hk⟩
end Go.Proofs.YtekghdfbhbhigaaGreatDoor.V
/- The law of the squared lengths. -/
set_option linter.unusedVariables false
set_option linter.unusedSimpArgs false
set_option maxRecDepth 100000
namespace Go.Proofs.YtekghdfbhbhigaaGreatDoor.V
open Go.RowKit Mt Nml
end Go.Proofs.YtekghdfbhbhigaaGreatDoor.V
/- What is read of data of rows, with the number of rows bounded by what is read. -/
set_option linter.unusedVariables false
set_option linter.unusedSimpArgs false
namespace Go.Proofs.YtekghdfbhbhigaaGreatDoor.V
open Go.Deep Go.ChangeShapes Go.WideShapes Go.ChangeAt Go.RowKit Mt Nml

section
variable {H : Type} {enc : TypeId × Value → H} {W : World} {base : Nat} {spare : Nat → Bool} {held : Bool} {fuel : Nat} {cs : List Value} {x : DataW H × List MemPlace}
end
end Go.Proofs.YtekghdfbhbhigaaGreatDoor.V
/- What is read of rows, with the lengths of the rows bounded by what is read. -/
set_option linter.unusedVariables false
set_option linter.unusedSimpArgs false
namespace Go.Proofs.YtekghdfbhbhigaaGreatDoor.V
open Go.Deep Go.ChangeShapes Go.WideShapes Go.ChangeAt Go.RowKit Mt Nml
section
variable {H : Type} {enc : TypeId × Value → H} {W : World} {base : Nat} {spare : Nat → Bool} {held : Bool} {fuel : Nat} {cs : List Value} {x : DataW H × List MemPlace}
end
end Go.Proofs.YtekghdfbhbhigaaGreatDoor.V
/- What is read of the arguments of a law: fractions, lists of them. -/
set_option linter.unusedVariables false
set_option linter.unusedSimpArgs false
namespace Go.Proofs.YtekghdfbhbhigaaGreatDoor.V
open Go.Deep Go.ChangeShapes Go.WideShapes Go.ChangeAt Go.RowKit Mt Nml
section
variable {P : Program} {H : Type} {enc : TypeId × Value → H} {W : World} {base : Nat} {spare : Nat → Bool} {held : Bool} {fuel : Nat} {cs : List Value} {x : DataW H × List MemPlace}
set_option maxRecDepth 100000 in
theorem read_Frac {k : Nat} (h : DataW.trod enc Tryz.prog W base spare held fuel 26 cs = some x) (hk : Rows.uptoBulk x.1 ≤ k) : ∃ a b, (T.st [T.Zi a k, T.Zi b k]).rep B0 W (.agg cs.toArray) := by
  obtain ⟨y0, y1, m, rfl, hl, h0, h1⟩ := trod_struct2 Tryz.underlying26 h
  have hl2 : cs.length = 4 := hl.trans (by kernel_rfl)
  have hk' : Rows.uptoBulk y0.1 + (Rows.uptoBulk y1.1 + 0) + 1 ≤ k := hk
  match cs, hl2 with
  | [c0, c1, c2, c3], _ =>
    have k0 : (([c0, c1, c2, c3] : List Value).drop 0).take (Tryz.prog.cellsOf 24) = [c0, c1] := by rw [show Tryz.prog.cellsOf 24 = 2 from by kernel_rfl]; rfl
    have k1 : (([c0, c1, c2, c3] : List Value).drop 2).take (Tryz.prog.cellsOf 24) = [c2, c3] := by rw [show Tryz.prog.cellsOf 24 = 2 from by kernel_rfl]; rfl
    rw [k0] at h0
    rw [k1] at h1
    obtain ⟨a, ha⟩ := read_Zi (k := k) h0 (by omega)
    obtain ⟨b, hb⟩ := read_Zi (k := k) h1 (by omega)
    exact ⟨a, b, [c0, c1, c2, c3], rfl, .agg #[c0, c1], [c2, c3], by show (2 : Nat) ≠ 0; omega, ha, rfl, .agg #[c2, c3], [], by show (2 : Nat) ≠ 0; omega, hb, rfl, rfl⟩
end
end Go.Proofs.YtekghdfbhbhigaaGreatDoor.V
/- How the model's orders of two floats read off their bits. Plain mathematics of words; no condition but that no word is a NaN where said. -/
namespace Go.Proofs.YtekghdfbhbhigaaGreatDoor.Fl
open Ieee

def rung (b : Nat) : Nat := b % 9223372036854775808
def sgn (b : Nat) : Bool := b / 9223372036854775808 % 2 == 1
def mag (r : Nat) : Nat := if r < 4503599627370496 then r else (4503599627370496 + r % 4503599627370496) * 2 ^ (r / 4503599627370496 - 1)
def INF : Nat := 9218868437227405312
def key (b : Nat) : Int := if sgn b then -(rung b : Int) else rung b
def isN (b : Nat) : Bool := decide (INF < rung b)

theorem d_sw : double.signWeight = 9223372036854775808 := by decide
theorem d_bin : double.binade = 4503599627370496 := by decide
theorem d_inf : double.infRung = 9218868437227405312 := by decide
theorem d_least : double.leastPlace = -1074 := by decide

theorem mag_step (r : Nat) : mag r < mag (r + 1) := by
  unfold mag
  by_cases h1 : r + 1 < 4503599627370496
  · rw [if_pos h1, if_pos (by omega)]; omega
  by_cases h2 : r < 4503599627370496
  · have e : r = 4503599627370495 := by omega
    subst e
    decide
  rw [if_neg h2, if_neg h1]
  obtain ⟨q, hq⟩ : ∃ q, r / 4503599627370496 = q + 1 := ⟨r / 4503599627370496 - 1, by omega⟩
  obtain ⟨t, ht⟩ : ∃ t, r % 4503599627370496 = t := ⟨_, rfl⟩
  have htl : t < 4503599627370496 := by omega
  by_cases h3 : t + 1 < 4503599627370496
  · have e1 : (r + 1) / 4503599627370496 = q + 1 := by omega
    have e2 : (r + 1) % 4503599627370496 = t + 1 := by omega
    rw [hq, ht, e1, e2]
    exact Nat.mul_lt_mul_of_pos_right (by omega) (Nat.two_pow_pos _)
  · have e1 : (r + 1) / 4503599627370496 = q + 2 := by omega
    have e2 : (r + 1) % 4503599627370496 = 0 := by omega
    rw [hq, ht, e1, e2, show q + 2 - 1 = (q + 1 - 1) + 1 from by omega, Nat.pow_succ]
    have := Nat.two_pow_pos (q + 1 - 1)
    generalize 2 ^ (q + 1 - 1) = z at this ⊢
    have e : t = 4503599627370495 := by omega
    subst e
    omega

theorem mag_lt {r s : Nat} (h : r < s) : mag r < mag s := by
  induction s with
  | zero => omega
  | succ s ih =>
    rcases Nat.lt_or_ge r s with h1 | h1
    · exact Nat.lt_trans (ih h1) (mag_step s)
    · have : r = s := by omega
      subst this; exact mag_step r

theorem mag_iff {r s : Nat} : mag r < mag s ↔ r < s := by
  refine ⟨fun h => ?_, mag_lt⟩
  rcases Nat.lt_trichotomy r s with h1 | h1 | h1
  · exact h1
  · subst h1; omega
  · have := mag_lt h1; omega

theorem mag_pos {r : Nat} : 0 < mag r ↔ 0 < r := by
  have := @mag_iff 0 r
  rwa [show mag 0 = 0 from rfl] at this

theorem read_num {b : Nat} (h : rung b < INF) : ∃ m e : Nat, double.read b = .number (sgn b) m (-1074 + (e : Int)) ∧ m * 2 ^ e = mag (rung b) := by
  unfold INF at h
  unfold Format.read
  rw [d_sw, d_bin, d_inf, d_least]
  show ∃ m e : Nat, (if rung b < 4503599627370496 then Datum.number (sgn b) (rung b) (-1074) else if rung b < 9218868437227405312 then .number (sgn b) (4503599627370496 + rung b % 4503599627370496) (-1074 + (rung b / 4503599627370496 - 1 : Nat)) else _) = _ ∧ _
  unfold mag
  by_cases h1 : rung b < 4503599627370496
  · rw [if_pos h1, if_pos h1]
    exact ⟨rung b, 0, by simp, by simp⟩
  · rw [if_neg h1, if_pos h, if_neg h1]
    exact ⟨_, _, rfl, rfl⟩

theorem read_inf {b : Nat} (h : rung b = INF) : double.read b = .infinity (sgn b) := by
  unfold INF at h
  unfold Format.read
  rw [d_sw, d_bin, d_inf, d_least]
  show (if rung b < 4503599627370496 then Datum.number (sgn b) (rung b) (-1074) else if rung b < 9218868437227405312 then .number (sgn b) (4503599627370496 + rung b % 4503599627370496) (-1074 + (rung b / 4503599627370496 - 1 : Nat)) else if rung b = 9218868437227405312 then .infinity (sgn b) else _) = _
  rw [if_neg (by omega), if_neg (by omega), if_pos h]

theorem read_nan {b : Nat} (h : INF < rung b) : ∃ s t, double.read b = .nan s t := by
  unfold INF at h
  unfold Format.read
  rw [d_sw, d_bin, d_inf, d_least]
  show ∃ s t, (if rung b < 4503599627370496 then Datum.number (sgn b) (rung b) (-1074) else if rung b < 9218868437227405312 then .number (sgn b) (4503599627370496 + rung b % 4503599627370496) (-1074 + (rung b / 4503599627370496 - 1 : Nat)) else if rung b = 9218868437227405312 then .infinity (sgn b) else .nan (sgn b) (rung b - 9218868437227405312)) = .nan s t
  rw [if_neg (by omega), if_neg (by omega), if_neg (by omega)]
  exact ⟨_, _, rfl⟩

theorem cmp_eq {a b c d : Int} (h1 : a < b ↔ c < d) (h2 : b < a ↔ d < c) : compare a b = compare c d := by
  simp only [compare, compareOfLessAndEq]
  by_cases x : a < b
  · rw [if_pos x, if_pos (h1.1 x)]
  · rw [if_neg x, if_neg (fun y => x (h1.2 y))]
    by_cases z : b < a
    · rw [if_neg (by omega), if_neg (by have := h2.1 z; omega)]
    · rw [if_pos (by omega), if_pos (by have := fun y => z (h2.2 y); have := fun y => x (h1.2 y); omega)]

theorem cmp_lt {a b : Int} (h : a < b) : compare a b = .lt := by
  simp only [compare, compareOfLessAndEq]; rw [if_pos h]
theorem cmp_gt {a b : Int} (h : b < a) : compare a b = .gt := by
  simp only [compare, compareOfLessAndEq]; rw [if_neg (by omega), if_neg (by omega)]

theorem signed_cmp (s t : Bool) (a b c d : Nat) (h1 : a < b ↔ c < d) (h2 : b < a ↔ d < c) (p1 : 0 < a ↔ 0 < c) (p2 : 0 < b ↔ 0 < d) :
    compare (if s then -(a : Int) else a) (if t then -(b : Int) else b) = compare (if s then -(c : Int) else c) (if t then -(d : Int) else d) := by
  refine cmp_eq ?_ ?_ <;> cases s <;> cases t <;> simp <;> omega

theorem order_num {x y : Nat} (hx : rung x < INF) (hy : rung y < INF) : double.order x y = some (compare (key x) (key y)) := by
  obtain ⟨m, e, h1, h2⟩ := read_num hx
  obtain ⟨n, f, h3, h4⟩ := read_num hy
  unfold Format.order
  rw [h1, h3]
  show some (compare (signed (sgn x) m (-1074 + (e : Int) - min (-1074 + (e : Int)) (-1074 + (f : Int))).toNat) (signed (sgn y) n (-1074 + (f : Int) - min (-1074 + (e : Int)) (-1074 + (f : Int))).toNat)) = _
  have e1 : (-1074 + (e : Int) - min (-1074 + (e : Int)) (-1074 + (f : Int))).toNat = e - min e f := by omega
  have e2 : (-1074 + (f : Int) - min (-1074 + (e : Int)) (-1074 + (f : Int))).toNat = f - min e f := by omega
  rw [e1, e2]
  unfold signed key
  congr 1
  have k1 : (m <<< (e - min e f)) * 2 ^ min e f = mag (rung x) := by
    rw [Nat.shiftLeft_eq, Nat.mul_assoc, ← Nat.pow_add, show e - min e f + min e f = e from by omega, h2]
  have k2 : (n <<< (f - min e f)) * 2 ^ min e f = mag (rung y) := by
    rw [Nat.shiftLeft_eq, Nat.mul_assoc, ← Nat.pow_add, show f - min e f + min e f = f from by omega, h4]
  have kp := Nat.two_pow_pos (min e f)
  refine signed_cmp _ _ _ _ _ _ ?_ ?_ ?_ ?_
  · rw [← @mag_iff (rung x), ← k1, ← k2]; exact (Nat.mul_lt_mul_right kp).symm
  · rw [← @mag_iff (rung y), ← k1, ← k2]; exact (Nat.mul_lt_mul_right kp).symm
  · rw [← @mag_pos (rung x), ← k1]; exact ⟨fun h => Nat.mul_pos h kp, fun h => Nat.pos_of_mul_pos_right h⟩
  · rw [← @mag_pos (rung y), ← k2]; exact ⟨fun h => Nat.mul_pos h kp, fun h => Nat.pos_of_mul_pos_right h⟩

/-- The order of two words that are no NaNs is that of their keys. -/
theorem order_key {x y : Nat} (hx : rung x ≤ INF) (hy : rung y ≤ INF) : double.order x y = some (compare (key x) (key y)) := by
  rcases Nat.lt_or_eq_of_le hx with hx | hx <;> rcases Nat.lt_or_eq_of_le hy with hy | hy
  · exact order_num hx hy
  · obtain ⟨m, e, h1, _⟩ := read_num hx
    unfold Format.order
    rw [h1, read_inf hy]
    show some (if sgn y then Ordering.gt else Ordering.lt) = _
    unfold key
    rw [hy]
    congr 1
    unfold INF at *
    cases sgn y <;> cases sgn x <;> first | exact (cmp_lt (by simp; omega)).symm | exact (cmp_gt (by simp; omega)).symm
  · obtain ⟨m, e, h1, _⟩ := read_num hy
    unfold Format.order
    rw [h1, read_inf hx]
    show some (if sgn x then Ordering.lt else Ordering.gt) = _
    unfold key
    rw [hx]
    congr 1
    unfold INF at *
    cases sgn y <;> cases sgn x <;> first | exact (cmp_lt (by simp; omega)).symm | exact (cmp_gt (by simp; omega)).symm
  · unfold Format.order
    rw [read_inf hx, read_inf hy]
    show some (compare (sgn y).toNat (sgn x).toNat) = _
    unfold key
    rw [hx, hy]
    cases sgn y <;> cases sgn x <;> decide

theorem order_nan {x y : Nat} (h : INF < rung x ∨ INF < rung y) : double.order x y = none := by
  unfold Format.order
  rcases h with h | h
  · obtain ⟨s, t, e⟩ := read_nan h
    rw [e]; rfl
  · obtain ⟨s, t, e⟩ := read_nan h
    rw [e]; cases double.read x <;> rfl

/-! ### The tests that the program makes -/
theorem sgn_of {b : Nat} (hb : b < 18446744073709551616) : sgn b = decide (9223372036854775808 ≤ b) := by
  unfold sgn
  by_cases h : 9223372036854775808 ≤ b
  · rw [decide_eq_true h, show b / 9223372036854775808 = 1 from by omega]; rfl
  · rw [decide_eq_false h, show b / 9223372036854775808 = 0 from by omega]; rfl
theorem rung_of {b : Nat} (hb : b < 18446744073709551616) : rung b = if 9223372036854775808 ≤ b then b - 9223372036854775808 else b := by
  unfold rung
  split <;> omega
theorem key_of {b : Nat} (hb : b < 18446744073709551616) : key b = if 9223372036854775808 ≤ b then 9223372036854775808 - (b : Int) else b := by
  unfold key
  rw [sgn_of hb, rung_of hb]
  by_cases h : 9223372036854775808 ≤ b
  · rw [decide_eq_true h, if_pos h, if_pos h, if_pos rfl]; omega
  · rw [decide_eq_false h, if_neg h, if_neg h]; rfl
theorem lt_of_cmp (a b : Int) : (some (compare a b) == some Ordering.lt) = decide (a < b) := by
  simp only [compare, compareOfLessAndEq]
  by_cases h : a < b
  · rw [if_pos h, decide_eq_true h]; rfl
  · by_cases h2 : a = b
    · rw [if_neg h, if_pos h2, decide_eq_false h]; rfl
    · rw [if_neg h, if_neg h2, decide_eq_false h]; rfl
theorem ord_lt (x y : Nat) : (FloatKind.f64.format.order x y == some .lt) = (!isN x && !isN y && decide (key x < key y)) := by
  show (double.order x y == some .lt) = _
  unfold isN
  by_cases h1 : INF < rung x
  · rw [order_nan (.inl h1), decide_eq_true h1]; rfl
  by_cases h2 : INF < rung y
  · rw [order_nan (.inr h2), decide_eq_true h2]; cases decide (INF < rung x) <;> rfl
  rw [order_key (by omega) (by omega), decide_eq_false h1, decide_eq_false h2, lt_of_cmp]; rfl
theorem ord_m {b : Nat} (hb : b < 18446744073709551616) (hn : isN b = false) (h0 : ¬ (b = 0 ∨ b = 9223372036854775808)) : (FloatKind.f64.format.order b 0 == some .lt) = decide (¬ b < 9223372036854775808) := by
  rw [ord_lt, hn, show isN 0 = false from by decide, key_of hb, show key 0 = 0 from by decide]
  simp only [Bool.not_false, Bool.true_and]
  refine decide_eq_decide.2 ?_
  split <;> omega
/-- The least float above, by its bits. -/
def up (b : Nat) : Nat := if isN b = true ∨ b = 9218868437227405312 then b else if b = 0 ∨ b = 9223372036854775808 then 1 else if b < 9223372036854775808 then b + 1 else b - 1
def ng (b : Nat) : Nat := Op.negFloat .f64 b
def dn (b : Nat) : Nat := ng (up (ng b))
def low (b : Nat) : Nat := if isN b = true then 18442240474082181120 else dn b
end Go.Proofs.YtekghdfbhbhigaaGreatDoor.Fl
/- Floats in the logic of calls: a float is a word that is no NaN, or some NaN. -/
set_option linter.unusedVariables false
set_option linter.unusedSimpArgs false
set_option maxRecDepth 100000
namespace Go.Proofs.YtekghdfbhbhigaaGreatDoor.V
open Go.RowKit Mt Nml

/-- A word, where it is no NaN. -/
def fo (b : Nat) : Option Nat := if Fl.isN b then none else some b
def T.F (o : Option Nat) : T := T.ex 1 false (fun b : Nat => b < 18446744073709551616 ∧ fo b = o) (fun b => T.c (.float .f64 b)) (fun _ => ⟨rfl, rfl, rfl⟩)
class BLt (b : Nat) : Prop where lt : b < 18446744073709551616
class IsF (X : T) (o : outParam (Option Nat)) : Prop where le : X.le (T.F o)
instance (o : Option Nat) : IsF (T.F o) o := ⟨.refl _⟩
instance (b : Nat) [h : BLt b] : IsF (T.c (.float .f64 b)) (fo b) := ⟨fun β u v k => ⟨b, ⟨h.lt, rfl⟩, k⟩⟩
instance : BLt 0 := ⟨by decide⟩
instance : BLt 9218868437227405311 := ⟨by decide⟩
instance : BLt 4602678819172646912 := ⟨by decide⟩
instance : BLt 4607182418800017408 := ⟨by decide⟩
def oLt : Option Nat → Option Nat → Bool
  | some x, some y => decide (Fl.key x < Fl.key y)
  | _, _ => false
theorem fo_lt (x y : Nat) : (FloatKind.f64.format.order x y == some .lt) = oLt (fo x) (fo y) := by
  rw [Fl.ord_lt]; unfold fo
  cases hx : Fl.isN x <;> cases hy : Fl.isN y <;> simp [oLt]
section
variable {P : Program} {ops : Array Oper} {fin : List OpS → List (Nat × T) → List (Nat × Option Ent) → Prop} {r : List Oper} {H : List OpS} {g : List (Nat × T)} {E : List (Nat × Option Ent)} {o : Oper}
variable {t : Option Nat} {ty : TypeId} {ps : String} {af : Array Edge} {gd : Option (Nat × Bool)} {x y : Operand} {X Y : T} {e off m n : Nat} {b : Bool} {et : TypeId} {a d : Option Nat}
end
section
variable {P : Program} {ops : Array Oper} {fin : List OpS → List (Nat × T) → List (Nat × Option Ent) → Prop} {r : List Oper} {H : List OpS} {g : List (Nat × T)} {E : List (Nat × Option Ent)}
variable {t : Option Nat} {ty : TypeId} {ps : String} {af : Array Edge} {gd : Option (Nat × Bool)} {X : T}
end
end Go.Proofs.YtekghdfbhbhigaaGreatDoor.V
/- Floats: the next one, infinities, the same. -/
set_option linter.unusedVariables false
set_option linter.unusedSimpArgs false
set_option maxRecDepth 100000
namespace Go.Proofs.YtekghdfbhbhigaaGreatDoor.V
open Go.RowKit Mt Nml
section
variable {P : Program} {ops : Array Oper} {fin : List OpS → List (Nat × T) → List (Nat × Option Ent) → Prop} {r : List Oper} {H : List OpS} {g : List (Nat × T)} {E : List (Nat × Option Ent)} {o : Oper}
variable {t : Option Nat} {ty : TypeId} {ps : String} {af : Array Edge} {gd : Option (Nat × Bool)} {x y : Operand} {X Y : T}
end
theorem lt0 {b : Nat} (hb : b < 18446744073709551616) (hn : Fl.isN b = false) (h : ¬ (b = 0 ∨ b = 9223372036854775808)) : oLt (fo b) (fo 0) = decide (¬ b < 9223372036854775808) := by rw [← fo_lt, Fl.ord_m hb hn h]

end Go.Proofs.YtekghdfbhbhigaaGreatDoor.V
/- Floats as fractions; the law of the floats beside each float. -/
set_option linter.unusedVariables false
set_option linter.unusedSimpArgs false
set_option maxRecDepth 100000
namespace Go.Proofs.YtekghdfbhbhigaaGreatDoor.V
open Go.RowKit Mt Nml
end Go.Proofs.YtekghdfbhbhigaaGreatDoor.V
/- Intervals: sums. -/
set_option linter.unusedVariables false
set_option linter.unusedSimpArgs false
set_option maxRecDepth 100000
namespace Go.Proofs.YtekghdfbhbhigaaGreatDoor.V
open Go.RowKit Mt Nml
end Go.Proofs.YtekghdfbhbhigaaGreatDoor.V
/- Intervals: what they hold. -/
set_option linter.unusedVariables false
set_option linter.unusedSimpArgs false
set_option maxRecDepth 100000
namespace Go.Proofs.YtekghdfbhbhigaaGreatDoor.V
open Go.RowKit Mt Nml
/-- A fraction however told. -/
abbrev T.Qi (a b : Int) (k : Nat) : T := T.st [T.Zi a k, T.Zi b k]
theorem qi_mono {a b : Int} {k k' : Nat} (h : k ≤ k') : (T.Qi a b k).le (T.Qi a b k') := st_le (l := [T.Zi a k, T.Zi b k]) (l' := [T.Zi a k', T.Zi b k']) ⟨zi_mono h, zi_mono h, trivial⟩
theorem q_qi (q : Rat) {k k' : Nat} (h : k ≤ k') : (T.Q q k).le (T.Qi q.num (q.den : Int) k') := st_le (l := [T.Z q.num k, T.Z (q.den : Int) k]) (l' := [T.Zi q.num k', T.Zi (q.den : Int) k']) ⟨(z_zi _ _).trans (zi_mono h), (z_zi _ _).trans (zi_mono h), trivial⟩
theorem rat_addG {a b c d : Int} (hb : b ≠ 0) (hd : d ≠ 0) : ((a * d + c * b : Int) : Rat) / ((b * d : Int) : Rat) = (a : Rat) / (b : Rat) + (c : Rat) / (d : Rat) := by
  rw [← Rat.divInt_eq_div, ← Rat.divInt_eq_div, ← Rat.divInt_eq_div, Rat.divInt_add_divInt _ _ hb hd]
theorem rat_mulG (a b c d : Int) : ((a * c : Int) : Rat) / ((b * d : Int) : Rat) = (a : Rat) / (b : Rat) * ((c : Rat) / (d : Rat)) := by
  rw [← Rat.divInt_eq_div, ← Rat.divInt_eq_div, ← Rat.divInt_eq_div, Rat.divInt_mul_divInt]
theorem rat_negG (a b : Int) : ((-a : Int) : Rat) / (b : Rat) = -((a : Rat) / (b : Rat)) := by
  rw [← Rat.divInt_eq_div, ← Rat.divInt_eq_div, Rat.neg_divInt]
theorem rat_nd (q : Rat) : ((q.num : Int) : Rat) / (((q.den : Int)) : Rat) = q := by rw [← Rat.divInt_eq_div, Rat.num_divInt_den]
instance (k : Nat) (q : Int × Int) : Sp ((cQi k).X q) [T.Zi q.1 k, T.Zi q.2 k] := inferInstanceAs (Sp (T.st [T.Zi q.1 k, T.Zi q.2 k]) _)
theorem two_pos {a b c d : Int} (hb : 0 < b) (hd : 0 < d) : ∀ i, i < [(a, b), (c, d)].length → 0 < ([(a, b), (c, d)].getD i (0, 0)).2 := fun i hi => by
  match i, hi with
  | 0, _ => exact hb
  | 1, _ => exact hd

theorem rat_validG {l : List (Int × Int)} {k : Nat} (hk : k ≤ 34359738368) (hl : l.length ≤ 1048576) (hp : ∀ i, i < l.length → 0 < (l.getD i (0, 0)).2) : Fn Tryz.prog 40 [T.l (cQi k) l] [] [] [] (T.c (.int .i64 0)) := by
  refine fn_of Tryz.func40 rfl (by show 1 ≤ 16; decide) fun cx hcx => ?_
  refine tri_sub (sl 0 rfl sn) en ?_
  refine tri_seq ?_
  refine tri_reg mixed hcx ?_ _ _
  refine asg rfl ?_
  refine ⟨by kernel_rfl, ?_⟩
  refine nx (sl 0 rfl sn) en ?_
  refine tri_seq ?_
  refine tri_seq ?_
  refine tri_reg mixed hcx ?_ _ _
  refine mv rfl ?_
  refine ln slQs rfl ?_
  refine mv rfl ?_
  refine ⟨by kernel_rfl, ?_⟩
  refine nx (sl 5 rfl (sl 6 rfl (sl 7 rfl sn))) en ?_
  refine tri_block ?_
  refine tri_loop (ι := Nat) (fun i => [(5, T.l (cQi k) l), (6, T.c (.int .i64 (l.length : Int))), (7, T.c (.int .i64 (i : Int)))]) (fun i => []) (fun i => l.length - i) (fun i => (i ≤ l.length)) 0 (Nat.zero_le _) (sl 5 rfl (sl 6 rfl (sl 7 rfl sn))) en ?_
  rintro i hi
  refine tri_sub (sl 5 rfl (sl 6 rfl (sl 7 rfl sn))) en ?_
  refine tri_seq ?_
  refine tri_reg mixed hcx ?_ _ _
  refine clt rfl rfl rfl ?_
  refine ⟨by kernel_rfl, ?_⟩
  refine nx (sl 5 rfl (sl 6 rfl (sl 7 rfl (sl 8 rfl sn)))) en ?_
  refine tri_seq ?_
  refine tri_if rfl (fun hc => ?_) (fun hc => ?_)
  · have hsg : sg (l.getD i (cQi k).dflt).2 = 1 := sg_pos (hp i (by omega))
    refine tri_skip ?_
    refine nx (sl 5 rfl (sl 6 rfl (sl 7 rfl sn))) en ?_
    refine tri_seq ?_
    refine tri_block ?_
    refine tri_seq ?_
    refine tri_reg mixed hcx ?_ _ _
    refine ix rfl rfl slQs ⟨rfl, by omega⟩ ?_
    refine lf rfl tyQ ?_
    refine nw 312 zeQ ?_
    refine sts (zz := [T.Zi (l.getD i (cQi k).dflt).1 k, T.Zi (l.getD i (cQi k).dflt).2 k]) rfl rfl rfl tyQ rfl ?_
    refine ⟨by kernel_rfl, ?_⟩
    refine nx (sl 4 rfl (sl 5 rfl (sl 6 rfl (sl 7 rfl sn)))) (el 312 rfl en) ?_
    refine tri_seq ?_
    refine tri_reg mixed hcx ?_ _ _
    refine fa rfl fDen 2 ?_
    refine ld rfl rfl tyZ rfl ?_
    refine ca rfl (h := zi_Sign (by omega)) (hn := ?_)
    refine cle rfl rfl (decide_eq_false (by omega)) ?_
    refine ⟨by kernel_rfl, ?_⟩
    refine nx (sl 5 rfl (sl 6 rfl (sl 7 rfl (sl 14 rfl sn)))) (el 312 rfl en) ?_
    refine tri_false rfl rfl ?_
    refine tri_skip ?_
    refine pn_blk ?_
    refine nx (sl 5 rfl (sl 6 rfl (sl 7 rfl sn))) (el 312 rfl en) ?_
    refine tri_reg mixed hcx ?_ _ _
    refine ad (((i + 1 : Nat) : Int)) rfl rfl rfl (by omega) ?_
    refine mv rfl ?_
    refine ⟨by kernel_rfl, ?_⟩
    exact pn_back (i + 1) (by first | omega | (dsimp only; omega)) (by omega) (sl 5 rfl (sl 6 rfl (sl 7 rfl sn))) en
  · refine tri_exit ?_
    repeat (first | refine pn_then ?_ | refine pn_oth (by decide) ?_)
    refine pn_ex ?_
    refine nx sn en ?_
    refine tri_seq ?_
    refine tri_reg mixed hcx ?_ _ _
    refine asg rfl ?_
    refine ⟨by kernel_rfl, ?_⟩
    refine nx (sl 2 rfl sn) en ?_
    refine tri_ret ?_
    repeat (first | refine pn_thenr ?_ | refine pn_blkr ?_)
    exact ret1 hcx rfl (rv_tmp rfl) (.refl _) en

theorem rat_CmpG {a b c d : Int} {k l : Nat} (hb : 0 < b) (hd : 0 < d) (hk : k ≤ 17179869184) (hl : l ≤ 17179869184) : Fn Tryz.prog 23 [T.Qi a b k, T.Qi c d l] [] [] [] (T.tup [T.c (.int .i64 (sgnc (a * d) (c * b))), T.c (.int .i64 0)]) := by
  refine fn_of Tryz.func23 rfl (by show 2 ≤ 25; decide) fun cx hcx => ?_
  refine tri_sub (sl 0 rfl (sl 1 rfl sn)) en ?_
  refine tri_seq ?_
  refine tri_reg mixed hcx ?_ _ _
  refine bxs 10 rfl ?_
  refine bxs 11 rfl ?_
  refine asg rfl ?_
  refine asg rfl ?_
  refine ⟨by kernel_rfl, ?_⟩
  refine nx (sl 2 rfl (sl 3 rfl sn)) (el 10 rfl (el 11 rfl en)) ?_
  refine tri_seq ?_
  refine tri_seq ?_
  refine tri_reg mixed hcx ?_ _ _
  refine ld rfl rfl tyQ rfl ?_
  refine ld rfl rfl tyQ rfl ?_
  refine bs (c := cQi (k + l)) (xs := [(a, b), (c, d)]) slQs rfl ⟨qi_mono (by omega), qi_mono (by omega), trivial⟩ ?_
  refine ca rfl (h := rat_validG (by omega) (by simp) (two_pos hb hd)) (hn := ?_)
  refine asg rfl ?_
  refine ⟨by kernel_rfl, ?_⟩
  refine nx (sl 2 rfl (sl 3 rfl (sl 6 rfl sn))) (el 10 rfl (el 11 rfl en)) ?_
  refine tri_seq ?_
  refine tri_reg mixed hcx ?_ _ _
  refine mv rfl ?_
  refine cne rfl rfl (decide_eq_false (by omega)) ?_
  refine ⟨by kernel_rfl, ?_⟩
  refine nx (sl 2 rfl (sl 3 rfl (sl 6 rfl (sl 12 rfl sn)))) (el 10 rfl (el 11 rfl en)) ?_
  refine tri_false rfl rfl ?_
  refine tri_skip ?_
  refine nx (sl 2 rfl (sl 3 rfl sn)) (el 10 rfl (el 11 rfl en)) ?_
  refine tri_seq ?_
  refine tri_reg mixed hcx ?_ _ _
  refine fa rfl fNum 0 ?_
  refine ld rfl rfl tyZ rfl ?_
  refine fa rfl fDen 2 ?_
  refine ld rfl rfl tyZ rfl ?_
  refine ca rfl (h := zi_Mul (by omega) (by omega)) (hn := ?_)
  refine fa rfl fNum 0 ?_
  refine ld rfl rfl tyZ rfl ?_
  refine fa rfl fDen 2 ?_
  refine ld rfl rfl tyZ rfl ?_
  refine ca rfl (h := zi_Mul (by omega) (by omega)) (hn := ?_)
  refine ca rfl (h := zi_Compare (by omega) (by omega)) (hn := ?_)
  refine asg rfl ?_
  refine asg rfl ?_
  refine ⟨by kernel_rfl, ?_⟩
  refine nx (sl 4 rfl (sl 5 rfl sn)) (el 10 rfl (el 11 rfl en)) ?_
  refine tri_ret ?_
  repeat (first | refine pn_thenr ?_ | refine pn_blkr ?_)
  exact ret2 hcx rfl (rv_tmp rfl) (rv_tmp rfl) (.refl _) en

section
variable {P : Program} {x : Code} {Q : Exit → Act → World → Prop} {ctx : Ctx} {n : Nat} {g : List (Nat × T)} {E : List (Nat × Option Ent)}
end
end Go.Proofs.YtekghdfbhbhigaaGreatDoor.V
