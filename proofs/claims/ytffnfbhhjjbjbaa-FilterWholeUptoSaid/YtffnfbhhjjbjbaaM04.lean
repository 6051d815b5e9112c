/- What a basis is; the law is awake. -/
import Derived.Test.YtffnfbhhjjbjbaaRows
import Derived.ChangeSame
import Derived.ChangeSlices
import Derived.Deep.Slices
import Derived.ProofKit
import Ieee.Arith
import GoSem.Core.Float
import GoSem.Op.Unary
import Derived.Laws.FloatArith
import Derived.Laws.Externs
import Derived.Test.YtffnfbhhjjbjbaaM03
set_option linter.unusedVariables false
set_option linter.unusedSimpArgs false
set_option maxRecDepth 100000
namespace Go.Proofs.Ytffnfbhhjjbjbaa.V
open Go.RowKit Mt Nml
/-- The most bits. -/
def mxB (l : List Int) (a : Nat) : Nat → Nat
  | 0 => a
  | j + 1 => max (mxB l a j) (nbits (l.getD j 0).natAbs)
def matB (b : List (List Int)) : Nat → Nat
  | 0 => 0
  | i + 1 => mxB (b.getD i []) (matB b i) (b.getD i []).length

theorem mat_Bits {b : List (List Int)} {k : Nat} (hk : k ≤ 1048576) (hb : b.length ≤ 1048576) (hr : ∀ i, i < b.length → (b.getD i []).length ≤ 1048576) : Fn Try.prog 112 [T.l (cL (cZi k)) b] [] [] [] (T.c (.int .i64 ((matB b b.length : Nat) : Int))) := by
  refine fn_of Try.func112 rfl (by show 1 ≤ 27; decide) fun cx hcx => ?_
  refine tri_sub (sl 0 rfl sn) en ?_
  refine tri_seq ?_
  refine tri_reg mixed hcx ?_ _ _
  refine asg rfl ?_
  refine ⟨by kernel_rfl, ?_⟩
  refine nx (sl 0 rfl sn) en ?_
  refine tri_seq ?_
  refine tri_reg mixed hcx ?_ _ _
  refine asg rfl ?_
  refine ⟨by kernel_rfl, ?_⟩
  refine nx (sl 0 rfl (sl 3 rfl sn)) en ?_
  refine tri_seq ?_
  refine tri_seq ?_
  refine tri_reg mixed hcx ?_ _ _
  refine mv rfl ?_
  refine ln slZss rfl ?_
  refine mv rfl ?_
  refine ⟨by kernel_rfl, ?_⟩
  refine nx (sl 3 rfl (sl 8 rfl (sl 9 rfl (sl 10 rfl sn)))) en ?_
  refine tri_block ?_
  refine tri_loop (ι := Nat) (fun i => [(3, T.c (.int .i64 ((matB b i : Nat) : Int))), (8, T.l (cL (cZi k)) b), (9, T.c (.int .i64 (b.length : Int))), (10, T.c (.int .i64 (i : Int)))]) (fun i => []) (fun i => b.length - i) (fun i => (i ≤ b.length)) 0 (Nat.zero_le _) (sl 3 rfl (sl 8 rfl (sl 9 rfl (sl 10 rfl sn)))) en ?_
  rintro i hi
  refine tri_sub (sl 3 rfl (sl 8 rfl (sl 9 rfl (sl 10 rfl sn)))) en ?_
  refine tri_seq ?_
  refine tri_reg mixed hcx ?_ _ _
  refine clt rfl rfl rfl ?_
  refine ⟨by kernel_rfl, ?_⟩
  refine nx (sl 3 rfl (sl 8 rfl (sl 9 rfl (sl 10 rfl (sl 11 rfl sn))))) en ?_
  refine tri_seq ?_
  refine tri_if rfl (fun hc => ?_) (fun hc => ?_)
  · have hri : (b.getD i (cL (cZi k)).dflt).length ≤ 1048576 := hr i (by omega)
    refine tri_skip ?_
    refine nx (sl 3 rfl (sl 8 rfl (sl 9 rfl (sl 10 rfl sn)))) en ?_
    refine tri_seq ?_
    refine tri_block ?_
    refine tri_seq ?_
    refine tri_reg mixed hcx ?_ _ _
    refine ix rfl rfl slZss ⟨rfl, by omega⟩ ?_
    refine lf rfl tyZs ?_
    refine asg rfl ?_
    refine ⟨by kernel_rfl, ?_⟩
    refine nx (sl 3 rfl (sl 5 rfl (sl 8 rfl (sl 9 rfl (sl 10 rfl sn))))) en ?_
    refine tri_seq ?_
    refine tri_reg mixed hcx ?_ _ _
    refine mv rfl ?_
    refine ln slZs rfl ?_
    refine mv rfl ?_
    refine ⟨by kernel_rfl, ?_⟩
    refine nx (sl 3 rfl (sl 8 rfl (sl 9 rfl (sl 10 rfl (sl 14 rfl (sl 15 rfl (sl 16 rfl sn))))))) en ?_
    refine tri_block ?_
    refine tri_loop (ι := Nat) (fun j => [(3, T.c (.int .i64 ((mxB (b.getD i []) (matB b i) j : Nat) : Int))), (8, T.l (cL (cZi k)) b), (9, T.c (.int .i64 (b.length : Int))), (10, T.c (.int .i64 (i : Int))), (14, T.l (cZi k) (b.getD i [])), (15, T.c (.int .i64 ((b.getD i []).length : Int))), (16, T.c (.int .i64 (j : Int)))]) (fun j => []) (fun j => (b.getD i []).length - j) (fun j => (j ≤ (b.getD i []).length)) 0 (Nat.zero_le _) (sl 3 rfl (sl 8 rfl (sl 9 rfl (sl 10 rfl (sl 14 rfl (sl 15 rfl (sl 16 rfl sn))))))) en ?_
    rintro j hj
    refine tri_sub (sl 3 rfl (sl 8 rfl (sl 9 rfl (sl 10 rfl (sl 14 rfl (sl 15 rfl (sl 16 rfl sn))))))) en ?_
    refine tri_seq ?_
    refine tri_reg mixed hcx ?_ _ _
    refine clt rfl rfl rfl ?_
    refine ⟨by kernel_rfl, ?_⟩
    refine nx (sl 3 rfl (sl 8 rfl (sl 9 rfl (sl 10 rfl (sl 14 rfl (sl 15 rfl (sl 16 rfl (sl 17 rfl sn)))))))) en ?_
    refine tri_seq ?_
    refine tri_if rfl (fun hd => ?_) (fun hd => ?_)
    · have hri2 : (b.getD i []).length ≤ 1048576 := hri
      refine tri_skip ?_
      refine nx (sl 3 rfl (sl 8 rfl (sl 9 rfl (sl 10 rfl (sl 14 rfl (sl 15 rfl (sl 16 rfl sn))))))) en ?_
      refine tri_seq ?_
      refine tri_block ?_
      refine tri_seq ?_
      refine tri_reg mixed hcx ?_ _ _
      refine ix rfl rfl slZs ⟨rfl, by omega⟩ ?_
      refine lf rfl tyZ ?_
      refine nw 712 zeZ ?_
      refine st rfl rfl rfl tyZ rfl ?_
      refine ⟨by kernel_rfl, ?_⟩
      refine nx (sl 3 rfl (sl 7 rfl (sl 8 rfl (sl 9 rfl (sl 10 rfl (sl 14 rfl (sl 15 rfl (sl 16 rfl sn)))))))) (el 712 rfl en) ?_
      refine tri_reg mixed hcx ?_ _ _
      refine mv rfl ?_
      refine ld rfl rfl tyZ rfl ?_
      refine ca rfl (h := zi_Bits (by omega)) (hn := ?_)
      refine mxb ((max (mxB (b.getD i []) (matB b i) j) (nbits ((b.getD i []).getD j 0).natAbs) : Nat) : Int) rfl rfl (by show max ((mxB (b.getD i []) (matB b i) j : Nat) : Int) ((nbits ((b.getD i []).getD j 0).natAbs : Nat) : Int) = _; omega) ?_
      refine asg rfl ?_
      refine ⟨by kernel_rfl, ?_⟩
      refine pn_blk ?_
      refine nx (sl 3 rfl (sl 8 rfl (sl 9 rfl (sl 10 rfl (sl 14 rfl (sl 15 rfl (sl 16 rfl sn))))))) (el 712 rfl en) ?_
      refine tri_reg mixed hcx ?_ _ _
      refine ad (((j + 1 : Nat) : Int)) rfl rfl rfl (by omega) ?_
      refine mv rfl ?_
      refine ⟨by kernel_rfl, ?_⟩
      exact pn_back (j + 1) (by first | omega | (dsimp only; omega)) (by omega) (sl 3 rfl (sl 8 rfl (sl 9 rfl (sl 10 rfl (sl 14 rfl (sl 15 rfl (sl 16 rfl sn))))))) en
    · refine tri_exit ?_
      repeat (first | refine pn_then ?_ | refine pn_oth (by decide) ?_)
      refine pn_ex ?_
      have hj2 : j = (b.getD i []).length := by omega
      refine pn_blk ?_
      refine nx (sl 3 rfl (sl 8 rfl (sl 9 rfl (sl 10 rfl sn)))) en ?_
      refine tri_reg mixed hcx ?_ _ _
      refine ad (((i + 1 : Nat) : Int)) rfl rfl rfl (by omega) ?_
      refine mv rfl ?_
      refine ⟨by kernel_rfl, ?_⟩
      exact pn_back (i + 1) (by first | omega | (dsimp only; omega)) (by omega) (sw 3 rfl (ci (by rw [hj2]; rfl)) (sl 8 rfl (sl 9 rfl (sl 10 rfl sn)))) en
  · refine tri_exit ?_
    repeat (first | refine pn_then ?_ | refine pn_oth (by decide) ?_)
    refine pn_ex ?_
    have hin : i = b.length := by omega
    subst hin
    refine nx (sl 3 rfl sn) en ?_
    refine tri_seq ?_
    refine tri_reg mixed hcx ?_ _ _
    refine mv rfl ?_
    refine asg rfl ?_
    refine ⟨by kernel_rfl, ?_⟩
    refine nx (sl 2 rfl sn) en ?_
    refine tri_ret ?_
    repeat (first | refine pn_thenr ?_ | refine pn_blkr ?_)
    exact ret1 hcx rfl (rv_tmp rfl) (.refl _) en

theorem mat_Shape {b : List (List Int)} {k m : Nat} (h0 : 0 < b.length) (hb : b.length ≤ 12) (hm : ∀ i, i < b.length → (b.getD i []).length = m) : Fn Try.prog 113 [T.l (cL (cZi k)) b] [] [] [] (T.tup [T.c (.int .i64 (b.length : Int)), T.c (.int .i64 (m : Int)), T.c (.int .i64 0)]) := by
  refine fn_of Try.func113 rfl (by show 1 ≤ 30; decide) fun cx hcx => ?_
  refine tri_sub (sl 0 rfl sn) en ?_
  have hm0 : (b.getD 0 (cL (cZi k)).dflt).length = m := hm 0 h0
  refine tri_seq ?_
  refine tri_reg mixed hcx ?_ _ _
  refine asg rfl ?_
  refine asg rfl ?_
  refine asg rfl ?_
  refine ⟨by kernel_rfl, ?_⟩
  refine nx (sl 0 rfl sn) en ?_
  refine tri_seq ?_
  refine tri_seq ?_
  refine tri_reg mixed hcx ?_ _ _
  refine mv rfl ?_
  refine ln slZss rfl ?_
  refine ceq rfl rfl (decide_eq_false (by omega)) ?_
  refine ⟨by kernel_rfl, ?_⟩
  refine nx (sl 0 rfl (sl 9 rfl sn)) en ?_
  refine tri_false rfl rfl ?_
  refine tri_skip ?_
  refine nx (sl 0 rfl sn) en ?_
  refine tri_seq ?_
  refine tri_seq ?_
  refine tri_reg mixed hcx ?_ _ _
  refine mv rfl ?_
  refine ln slZss rfl ?_
  refine mv rfl ?_
  refine ⟨by kernel_rfl, ?_⟩
  refine nx (sl 0 rfl (sl 10 rfl (sl 11 rfl (sl 12 rfl sn)))) en ?_
  refine tri_block ?_
  refine tri_loop (ι := Nat) (fun i => [(0, T.l (cL (cZi k)) b), (10, T.l (cL (cZi k)) b), (11, T.c (.int .i64 (b.length : Int))), (12, T.c (.int .i64 (i : Int)))]) (fun i => []) (fun i => b.length - i) (fun i => (i ≤ b.length)) 0 (Nat.zero_le _) (sl 0 rfl (sl 10 rfl (sl 11 rfl (sl 12 rfl sn)))) en ?_
  rintro i hi
  refine tri_sub (sl 0 rfl (sl 10 rfl (sl 11 rfl (sl 12 rfl sn)))) en ?_
  refine tri_seq ?_
  refine tri_reg mixed hcx ?_ _ _
  refine clt rfl rfl rfl ?_
  refine ⟨by kernel_rfl, ?_⟩
  refine nx (sl 0 rfl (sl 10 rfl (sl 11 rfl (sl 12 rfl (sl 13 rfl sn))))) en ?_
  refine tri_seq ?_
  refine tri_if rfl (fun hc => ?_) (fun hc => ?_)
  · have hmi : (b.getD i (cL (cZi k)).dflt).length = m := hm i (by omega)
    refine tri_skip ?_
    refine nx (sl 0 rfl (sl 10 rfl (sl 11 rfl (sl 12 rfl sn)))) en ?_
    refine tri_seq ?_
    refine tri_block ?_
    refine tri_seq ?_
    refine tri_reg mixed hcx ?_ _ _
    refine ix rfl rfl slZss ⟨rfl, by omega⟩ ?_
    refine lf rfl tyZs ?_
    refine asg rfl ?_
    refine ⟨by kernel_rfl, ?_⟩
    refine nx (sl 0 rfl (sl 6 rfl (sl 10 rfl (sl 11 rfl (sl 12 rfl sn))))) en ?_
    refine tri_seq ?_
    refine tri_reg mixed hcx ?_ _ _
    refine mv rfl ?_
    refine ln slZs rfl ?_
    refine mv rfl ?_
    refine ix rfl rfl slZss ⟨(rfl : _ = ((0 : Nat) : Int)), by omega⟩ ?_
    refine lf rfl tyZs ?_
    refine ln slZs rfl ?_
    refine cne rfl rfl (decide_eq_false (by omega)) ?_
    refine ⟨by kernel_rfl, ?_⟩
    refine nx (sl 0 rfl (sl 10 rfl (sl 11 rfl (sl 12 rfl (sl 22 rfl sn))))) en ?_
    refine tri_false rfl rfl ?_
    refine tri_skip ?_
    refine pn_blk ?_
    refine nx (sl 0 rfl (sl 10 rfl (sl 11 rfl (sl 12 rfl sn)))) en ?_
    refine tri_reg mixed hcx ?_ _ _
    refine ad (((i + 1 : Nat) : Int)) rfl rfl rfl (by omega) ?_
    refine mv rfl ?_
    refine ⟨by kernel_rfl, ?_⟩
    exact pn_back (i + 1) (by first | omega | (dsimp only; omega)) (by omega) (sl 0 rfl (sl 10 rfl (sl 11 rfl (sl 12 rfl sn)))) en
  · refine tri_exit ?_
    repeat (first | refine pn_then ?_ | refine pn_oth (by decide) ?_)
    refine pn_ex ?_
    refine nx (sl 0 rfl sn) en ?_
    refine tri_seq ?_
    refine tri_reg mixed hcx ?_ _ _
    refine mv rfl ?_
    refine ln slZss rfl ?_
    refine mv rfl ?_
    refine ix rfl rfl slZss ⟨(rfl : _ = ((0 : Nat) : Int)), by omega⟩ ?_
    refine lf rfl tyZs ?_
    refine ln slZs rfl ?_
    refine asg rfl ?_
    refine asg rfl ?_
    refine asg rfl ?_
    refine ⟨by kernel_rfl, ?_⟩
    refine nx (sl 2 rfl (sl 3 rfl (sl 4 rfl sn))) en ?_
    refine tri_ret ?_
    repeat (first | refine pn_thenr ?_ | refine pn_blkr ?_)
    exact ret3 hcx rfl (rv_tmp rfl) (rv_tmp rfl) (rv_tmp rfl) (.of (by rw [hm0])) en

theorem zl_one' {z : Int} (h : z.natAbs < 4294967296) : zl z ≤ 1 := by unfold zl; exact lim_le (by unfold B; omega)
theorem zl_dotU {xs ys : List Int} {k l : Nat} (hx : ∀ i, zl (xs.getD i 0) ≤ k) (hy : ∀ i, zl (ys.getD i 0) ≤ l) : ∀ n, zl (dotU xs ys n) ≤ n * (k + l + 1)
  | 0 => by show zl 0 ≤ _; rw [show zl 0 = 0 from by unfold zl; exact lim_zero]; omega
  | n + 1 => by
    rw [Nat.succ_mul]
    exact Nat.le_trans (zl_add_max (k := n * (k + l + 1) + (k + l)) (Nat.le_trans (zl_dotU hx hy n) (by omega)) (Nat.le_trans (zl_mul (hx n) (hy n)) (by omega))) (by omega)
end Go.Proofs.Ytffnfbhhjjbjbaa.V
/- The law of the parts of data. -/
set_option linter.unusedVariables false
set_option linter.unusedSimpArgs false
set_option maxRecDepth 100000
namespace Go.Proofs.Ytffnfbhhjjbjbaa.V
open Go.RowKit Mt Nml
end Go.Proofs.Ytffnfbhhjjbjbaa.V
/- What is read of the arguments of a law: whole numbers, lists of them, lists of lists, data of rows. -/
set_option linter.unusedVariables false
set_option linter.unusedSimpArgs false
namespace Go.Proofs.Ytffnfbhhjjbjbaa.V
open Go.Deep Go.ChangeShapes Go.WideShapes Go.ChangeAt Go.RowKit Mt Nml

theorem cells_one {β : Env} {u : World} {X : T} {v : Value} (h0 : X.sz ≠ 0) (h : X.rep β u v) : Cells β u [X] v.cells.toList := ⟨v, [], h0, h, by simp, rfl⟩
theorem addr_add_add (a : Addr) (m n : Nat) : (a.add m).add n = a.add (m + n) := by
  unfold Addr.add
  by_cases h : m = 0
  · subst h; simp
  · by_cases h2 : n = 0
    · subst h2; simp [h]
    · simp [h, h2, Nat.add_assoc]
theorem read_list {α : Type} (c : Cod α) {W : World} {base : Nat} {a : Addr} : ∀ {len : Nat}, (∀ i, i < len → ∃ z cs' v, W.cells? base (a.add (i * c.sz)) c.sz = some cs' ∧ v.cells.toList = cs' ∧ (c.X z).rep B0 W v) → ∃ l : List α, l.length = len ∧ ∃ xs, Els c l W xs ∧ Stand W a xs ∧ xs.length = len * c.sz
  | 0, _ => ⟨[], rfl, [], rfl, fun j v h => by simp at h, by simp⟩
  | len + 1, hx => by
    obtain ⟨l, hl, xs, hE, hS, hn⟩ := read_list c (len := len) (fun i hi => hx i (by omega))
    obtain ⟨z, cs', v, h1, h2, h3⟩ := hx len (by omega)
    obtain ⟨_, k1, k2⟩ := World.cells?_some h1
    refine ⟨l ++ [z], by rw [List.length_append, hl]; rfl, xs ++ cs', ?_, fun j y hy => ?_, by rw [List.length_append, hn, k1, Nat.succ_mul]⟩
    · show Cells B0 W ((l ++ [z]).map c.X) (xs ++ cs')
      rw [List.map_append, ← h2]
      exact Cells.append hE (cells_one (by rw [c.sz0]; exact c.pos) h3)
    · rcases Nat.lt_or_ge j xs.length with h | h
      · rw [List.getElem?_append_left h] at hy; exact hS j y hy
      · obtain ⟨d, rfl⟩ : ∃ d, j = xs.length + d := ⟨j - xs.length, by omega⟩
        rw [List.getElem?_append_right h, Nat.add_sub_cancel_left] at hy
        have hj : d < c.sz := by rw [← k1]; exact (List.getElem?_eq_some_iff.1 hy).1
        have := k2 d hj
        rw [hy] at this
        rw [← this, hn]
        rw [← addr_add_add]
section
variable {H : Type} {enc : TypeId × Value → H} {W : World} {base : Nat} {spare : Nat → Bool} {held : Bool} {fuel : Nat} {cs : List Value} {x : DataW H × List MemPlace}
theorem bulk_pos (d : DataW H) : 1 ≤ Rows.uptoBulk d := by
  cases d with
  | lit l => cases l <;> simp [Rows.uptoBulk]
  | _ => simp [Rows.uptoBulk]
theorem bulk_all : ∀ {l : List (DataW H)}, l.length ≤ Rows.uptoBulkAll l
  | [] => Nat.zero_le _
  | d :: r => by
    have h1 := bulk_pos d
    have h2 := bulk_all (l := r)
    show r.length + 1 ≤ Rows.uptoBulk d + Rows.uptoBulkAll r
    omega
theorem bulk_mem : ∀ {l : List (DataW H)} {d : DataW H}, d ∈ l → Rows.uptoBulk d ≤ Rows.uptoBulkAll l
  | d' :: r, d, h => by
    show _ ≤ Rows.uptoBulk d' + Rows.uptoBulkAll r
    rcases List.mem_cons.1 h with h | h
    · subst h; omega
    · have := bulk_mem h; omega
theorem bulk_lits (k : IntKind) : ∀ l : List Int, Rows.uptoBulkAll (H := H) (lits k l) = l.length
  | [] => rfl
  | a :: l => by
    show Rows.uptoBulk (DataW.lit (H := H) (.int k a)) + Rows.uptoBulkAll (lits k l) = _
    rw [bulk_lits k l, List.length_cons]
    show 1 + l.length = _
    omega
theorem read_lims (h : DataW.trod enc Try.prog W base spare held fuel 27 cs = some x) : ∃ v xs, cs = [v] ∧ (T.l cU xs).rep B0 W v ∧ Lim xs ∧ xs.length ≤ Rows.uptoBulk x.1 := by
  rcases open_ints Try.underlying27 Try.underlying84 (by kernel_rfl) h with ⟨rfl, rfl⟩ | ⟨a, len, cap, zs, rfl, _, hl, hm, hz, rfl, hcell, hwz⟩
  · exact ⟨_, [], rfl, nil_l cU _ _ _ rfl, Lim.nil, Nat.zero_le _⟩
  · have hz' : len ≤ zs.length := by rw [hz]; split <;> omega
    have hb : (zs.take len).length = len := by rw [List.length_take]; omega
    have hlim : Lim (zs.take len) := fun z hz0 => by
      have := hwz z (List.mem_of_mem_take hz0)
      have e0 : IntKind.u32.min = 0 := by kernel_rfl
      have e1 : IntKind.u32.max = 4294967295 := by kernel_rfl
      simp [Lit.wf] at this
      constructor <;> omega
    refine ⟨_, zs.take len, rfl, ⟨some a, len, cap, rfl, hb, hl, by unfold maxLen at hm; omega, fun hp => ⟨a, rfl, _, els_cU _ _, fun j y hy => ?_⟩⟩, hlim, ?_⟩
    · rw [List.getElem?_map, Option.map_eq_some_iff] at hy
      obtain ⟨z, h1, rfl⟩ := hy
      have hj : j < len := by rw [← hb]; exact (List.getElem?_eq_some_iff.1 h1).1
      rw [hcell j (by omega), List.getD_eq_getElem?_getD, ← List.getElem?_take_of_lt hj, h1]; rfl
    · show _ ≤ Rows.uptoBulkAll (lits .u32 (zs.take len)) + _ + 1
      rw [bulk_lits]; omega
set_option maxRecDepth 100000 in
theorem read_Zi {k : Nat} (h : DataW.trod enc Try.prog W base spare held fuel 29 cs = some x) (hk : Rows.uptoBulk x.1 ≤ k) : ∃ z, (T.Zi z k).rep B0 W (.agg cs.toArray) := by
  obtain ⟨y0, y1, m, rfl, hl, h0, h1⟩ := trod_struct2 Try.underlying29 h
  have hl2 : cs.length = 2 := hl.trans (by kernel_rfl)
  match cs, hl2 with
  | [c0, c1], _ =>
    obtain ⟨s, e0, _⟩ := DataW.trod_bool Try.underlying4 h0
    obtain ⟨v, xs, e1, hr, hli, hn⟩ := read_lims h1
    have k0 : (([c0, c1] : List Value).drop 0).take (Try.prog.cellsOf 4) = [c0] := by rw [show Try.prog.cellsOf 4 = 1 from by kernel_rfl]; rfl
    have k1 : (([c0, c1] : List Value).drop 1).take (Try.prog.cellsOf 27) = [c1] := by rw [show Try.prog.cellsOf 27 = 1 from by kernel_rfl]; rfl
    have e0' : [c0] = [Value.bool s] := k0.symm.trans e0
    have e1' : [c1] = [v] := k1.symm.trans e1
    cases e0'
    cases e1'
    have hk' : Rows.uptoBulk y1.1 ≤ k := by
      have : Rows.uptoBulk y0.1 + (Rows.uptoBulk y1.1 + 0) + 1 ≤ k := hk
      omega
    refine ⟨_, (s, xs), ⟨hli, rfl, Nat.le_trans hn hk'⟩, [.bool s, c1], rfl, .bool s, [c1], by show (1 : Nat) ≠ 0; omega, rfl, rfl, c1, [], by show (1 : Nat) ≠ 0; omega, hr, ?_, rfl⟩
    obtain ⟨A, n, q, rfl, _⟩ := hr
    rfl
theorem read_ints {k : Nat} (h : DataW.trod enc Try.prog W base spare held fuel 22 cs = some x) (hk : Rows.uptoBulk x.1 ≤ k) : ∃ v l, cs = [v] ∧ (T.l (cZi k) l).rep B0 W v ∧ l.length ≤ Rows.uptoBulk x.1 := by
  rcases open_slice Try.underlying22 h with ⟨rfl, rfl⟩ | ⟨a, len, cap, m, n, D, Pl, rfl, hb, hl, hm, hmm, rfl, hx⟩
  · exact ⟨_, [], rfl, nil_l _ _ _ _ rfl, Nat.zero_le _⟩
  · have hml : len ≤ m := by rw [hmm]; split <;> omega
    have hbl : len ≤ Rows.uptoBulkAll ((List.range len).map D) := by have := bulk_all (l := (List.range len).map D); simpa using this
    have hbk : Rows.uptoBulkAll ((List.range len).map D) + Rows.uptoBulkAll ((List.range (m - len)).map fun j => D (len + j)) + 1 ≤ k := hk
    obtain ⟨l, h1, xs, h2, h3, h4⟩ := read_list (cZi k) (W := W) (base := base) (a := a) (len := len) (fun i hi => by
      obtain ⟨cs', k1, k2⟩ := hx i (by omega)
      rw [show Try.prog.cellsOf 29 = 2 from by kernel_rfl] at k1
      obtain ⟨z, hz⟩ := read_Zi (k := k) k2 (by have := bulk_mem (l := (List.range len).map D) (List.mem_map_of_mem (List.mem_range.2 hi)); show Rows.uptoBulk (D i) ≤ k; omega)
      exact ⟨z, cs', _, k1, rfl, hz⟩)
    refine ⟨_, l, rfl, ⟨some a, len, cap, rfl, h1, hl, by unfold maxLen at hm; omega, fun hp => ⟨a, rfl, xs, h2, h3⟩⟩, ?_⟩
    show _ ≤ Rows.uptoBulkAll ((List.range len).map D) + Rows.uptoBulkAll ((List.range (m - len)).map fun j => D (len + j)) + 1
    omega
end
/-- A function that leaves what it found: what its caller sees. -/
theorem fn_calls_of {P : Program} {f : FuncId} {As : List T} {v : Value} (h : Fn P f As [] [] [] (T.c v)) {W : World} {vs : List Value} (hr : Reps B0 W As vs) : Calls P f vs.toArray W fun e w' => e = .returned v ∧ Below W.heap.size W w' :=
  (h vs B0 W W (fun _ _ => False) (Sub.refl W) hr (Hold.none _ _ _ _)).mono fun e w' ⟨v', he, u', β', F', h1, h2, h3, h4, h5⟩ => ⟨by rw [he, show v' = v from h5], ⟨h2.os, h2.tape, h2.output, h2.size, fun k hk => h2.block k hk (fun ⟨c, hc, _⟩ => by cases hc)⟩⟩
end Go.Proofs.Ytffnfbhhjjbjbaa.V
/- Shifts of whole numbers. -/
set_option linter.unusedVariables false
set_option linter.unusedSimpArgs false
set_option maxRecDepth 100000
namespace Go.Proofs.Ytffnfbhhjjbjbaa.V
open Go.RowKit Mt Nml
end Go.Proofs.Ytffnfbhhjjbjbaa.V
/- Sums and products of fractions. -/
set_option linter.unusedVariables false
set_option linter.unusedSimpArgs false
set_option maxRecDepth 100000
namespace Go.Proofs.Ytffnfbhhjjbjbaa.V
open Go.RowKit Mt Nml
section
variable {P : Program} {x : Code} {Q : Exit → Act → World → Prop} {ctx : Ctx} {n : Nat} {g : List (Nat × T)} {E : List (Nat × Option Ent)}
/-- A box that is written to no more: its pointer tells a place that stands. -/
theorem tri_fzb {et : TypeId} {l : List T} (t e : Nat) (ht : lk g t = some (T.p e 0)) (hE : lkE E e = some (Ent.box et l)) (hl : szs l ≠ 0) (h : Tri P x Q ctx n ((t, T.fp (T.st l)) :: g) ((e, none) :: E)) : Tri P x Q ctx n g E := fun a w hS => h a w (by
  obtain ⟨β, u, F, h1, h2, h3, h4, h5, h6, h7⟩ := hS
  obtain ⟨b, cs, k1, k2, k3, k4⟩ := h4.hold e _ hE
  have hs := h5.sub
  have hd : ∀ k, F e k → Dead u k := fun k hk => (h4.dead e _ k hE hk).1
  have hup := solid_up hs hd
  have hlk : ∀ f X, lkE ((e, none) :: E) f = some X → f ≠ e ∧ lkE E f = some X := fun f X hX => by
    unfold lkE at hX
    rw [lk_cons] at hX
    split at hX
    · cases hX
    · rename_i hne; exact ⟨Ne.symm hne, hX⟩
  refine ⟨β, solid u w (F e), F, h1, h2, fun t' X hX => ?_, ⟨fun f X hX => ?_, fun f X k hX hk => ?_, fun f f' X Y k hX hY hne hk hk' => ?_⟩, ⟨h5.os, h5.tape, h5.output, h5.size, h5.block, h5.old.trans hup, solid_sub hs, fun k hk hc hdk => solid_dead hs (fun hk' => ?_) (h5.dead k hk hc hdk)⟩, fun f X k hX hk => ?_, h7⟩
  · rw [lk_cons] at hX
    split at hX
    · rename_i e1
      subst e1
      cases hX
      obtain ⟨v, q1, b', q2, q3⟩ := h3 t _ ht
      have hb : b' = b := by rw [k1] at q2; cases q2; rfl
      subst hb
      refine ⟨v, q1, ⟨b', 0, none⟩, .agg cs.toArray, q3, hl, ⟨cs, rfl, k4.mono hup⟩, fun j y hy => ?_⟩
      rw [add_none, Nat.zero_add, solid_in hs ((k2 b').2 rfl), cell_of_row w b' j _ et (0, 0) k3]
      simpa [Value.cells] using hy
    · obtain ⟨v, q1, q2⟩ := h3 t' X hX
      exact ⟨v, q1, X.mono hup q2⟩
  · obtain ⟨hne, hX'⟩ := hlk f X hX
    exact X.mono hup (h4.hold f X hX')
  · obtain ⟨hne, hX'⟩ := hlk f X hX
    exact ⟨solid_dead hs (fun hk' => h4.apart f e X _ k hX' hE hne hk hk') (h4.dead f X k hX' hk).1, (h4.dead f X k hX' hk).2⟩
  · exact h4.apart f f' X Y k (hlk f X hX).2 (hlk f' Y hY).2 hne hk hk'
  · rcases h6 e _ k hE hk' with h8 | h8
    · exact hc h8
    · omega
  · exact h6 f X k (hlk f X hX).2 hk)
end
instance (k : Nat) (q : Rat) : Sp ((cQ k).X q) [T.Z q.num k, T.Z (q.den : Int) k] := inferInstanceAs (Sp (T.Q q k) _)
/-- A function value whose captured things hang on no memory of one's own. -/
def T.clo (f : FuncId) (Cs : List T) (h : Cs.flatMap (·.ns) = []) : T := ⟨[], 1, false, (T.fn f Cs).rep, (T.fn f Cs).shp, (T.fn f Cs).mono, fun _ hr => (T.fn f Cs).ext (fun e he => by rw [show (T.fn f Cs).ns = [] from h] at he; cases he) hr⟩
theorem clo_le {f : FuncId} {Cs : List T} {h : Cs.flatMap (·.ns) = []} : (T.fn f Cs).le (T.clo f Cs h) := fun _ _ _ k => k
theorem clo_ge {f : FuncId} {Cs : List T} {h : Cs.flatMap (·.ns) = []} : (T.clo f Cs h).le (T.fn f Cs) := fun _ _ _ k => k
theorem q_eq {q q' : Rat} {k k' : Nat} (h : q = q') (hk : k ≤ k') : (T.Q q k).le (T.Q q' k') := by subst h; exact st_le (l := [T.Z q.num k, T.Z (q.den : Int) k]) (l' := [T.Z q.num k', T.Z (q.den : Int) k']) ⟨z_mono hk, z_mono hk, trivial⟩
theorem den_ne (q : Rat) : ((q.den : Int)) ≠ 0 := by have := q.den_pos; omega
theorem den_sg (q : Rat) : sg (q.den : Int) = 1 := sg_pos (by have := q.den_pos; omega)
theorem rat_adds (q r : Rat) : ((q.num * (r.den : Int) + r.num * (q.den : Int) : Int) : Rat) / (((q.den : Int) * (r.den : Int) : Int) : Rat) = q + r := by
  conv => rhs; rw [← Rat.num_divInt_den q, ← Rat.num_divInt_den r]
  rw [Rat.divInt_add_divInt _ _ (den_ne q) (den_ne r), Rat.divInt_eq_div]
theorem rat_muls (q r : Rat) : ((q.num * r.num : Int) : Rat) / (((q.den : Int) * (r.den : Int) : Int) : Rat) = q * r := by
  conv => rhs; rw [← Rat.num_divInt_den q, ← Rat.num_divInt_den r]
  rw [Rat.divInt_mul_divInt, Rat.divInt_eq_div]

theorem rat_valid {l : List Rat} {k : Nat} (hk : k ≤ 17592186044416) (hl : l.length ≤ 1048576) : Fn Try.prog 35 [T.l (cQ k) l] [] [] [] (T.c (.int .i64 0)) := by
  refine fn_of Try.func35 rfl (by show 1 ≤ 16; decide) fun cx hcx => ?_
  refine tri_sub (sl 0 rfl sn) en ?_
  refine tri_seq ?_
  refine tri_reg mixed hcx ?_ _ _
  refine asg rfl ?_
  refine ⟨by kernel_rfl, ?_⟩
  refine nx (sl 0 rfl sn) en ?_
  refine tri_seq ?_
  refine tri_seq ?_
  refine tri_reg mixed hcx ?_ _ _
  refine mv rfl ?_
  refine ln slQs rfl ?_
  refine mv rfl ?_
  refine ⟨by kernel_rfl, ?_⟩
  refine nx (sl 5 rfl (sl 6 rfl (sl 7 rfl sn))) en ?_
  refine tri_block ?_
  refine tri_loop (ι := Nat) (fun i => [(5, T.l (cQ k) l), (6, T.c (.int .i64 (l.length : Int))), (7, T.c (.int .i64 (i : Int)))]) (fun i => []) (fun i => l.length - i) (fun i => (i ≤ l.length)) 0 (Nat.zero_le _) (sl 5 rfl (sl 6 rfl (sl 7 rfl sn))) en ?_
  rintro i hi
  refine tri_sub (sl 5 rfl (sl 6 rfl (sl 7 rfl sn))) en ?_
  refine tri_seq ?_
  refine tri_reg mixed hcx ?_ _ _
  refine clt rfl rfl rfl ?_
  refine ⟨by kernel_rfl, ?_⟩
  refine nx (sl 5 rfl (sl 6 rfl (sl 7 rfl (sl 8 rfl sn)))) en ?_
  refine tri_seq ?_
  refine tri_if rfl (fun hc => ?_) (fun hc => ?_)
  · have hsg := den_sg (l.getD i (cQ k).dflt)
    refine tri_skip ?_
    refine nx (sl 5 rfl (sl 6 rfl (sl 7 rfl sn))) en ?_
    refine tri_seq ?_
    refine tri_block ?_
    refine tri_seq ?_
    refine tri_reg mixed hcx ?_ _ _
    refine ix rfl rfl slQs ⟨rfl, by omega⟩ ?_
    refine lf rfl tyQ ?_
    refine nw 312 zeQ ?_
    refine sts (zz := [T.Z (l.getD i (cQ k).dflt).num k, T.Z ((l.getD i (cQ k).dflt).den : Int) k]) rfl rfl rfl tyQ rfl ?_
    refine ⟨by kernel_rfl, ?_⟩
    refine nx (sl 4 rfl (sl 5 rfl (sl 6 rfl (sl 7 rfl sn)))) (el 312 rfl en) ?_
    refine tri_seq ?_
    refine tri_reg mixed hcx ?_ _ _
    refine fa rfl fDen 2 ?_
    refine ld rfl rfl tyZ rfl ?_
    refine ca rfl (h := zi_Sign (by omega)) (hn := ?_)
    refine cle rfl rfl (decide_eq_false (by omega)) ?_
    refine ⟨by kernel_rfl, ?_⟩
    refine nx (sl 5 rfl (sl 6 rfl (sl 7 rfl (sl 14 rfl sn)))) (el 312 rfl en) ?_
    refine tri_false rfl rfl ?_
    refine tri_skip ?_
    refine pn_blk ?_
    refine nx (sl 5 rfl (sl 6 rfl (sl 7 rfl sn))) (el 312 rfl en) ?_
    refine tri_reg mixed hcx ?_ _ _
    refine ad (((i + 1 : Nat) : Int)) rfl rfl rfl (by omega) ?_
    refine mv rfl ?_
    refine ⟨by kernel_rfl, ?_⟩
    exact pn_back (i + 1) (by first | omega | (dsimp only; omega)) (by omega) (sl 5 rfl (sl 6 rfl (sl 7 rfl sn))) en
  · refine tri_exit ?_
    repeat (first | refine pn_then ?_ | refine pn_oth (by decide) ?_)
    refine pn_ex ?_
    refine nx sn en ?_
    refine tri_seq ?_
    refine tri_reg mixed hcx ?_ _ _
    refine asg rfl ?_
    refine ⟨by kernel_rfl, ?_⟩
    refine nx (sl 2 rfl sn) en ?_
    refine tri_ret ?_
    repeat (first | refine pn_thenr ?_ | refine pn_blkr ?_)
    exact ret1 hcx rfl (rv_tmp rfl) (.refl _) en

theorem rat_two {q r s : Rat} {k l m : Nat} {f : FuncId} {Cs : List T} (hf : Fn Try.prog f Cs [] [] [] (T.Q s m)) (hen : Enters Try.prog f) (hns : Cs.flatMap (·.ns) = []) (hk : k ≤ 1099511627776) (hl : l ≤ 1099511627776) : Fn Try.prog 86 [T.Q q k, T.Q r l, T.clo f Cs hns] [] [] [] (T.tup [T.Q s m, T.c (.int .i64 0)]) := by
  refine fn_of Try.func86 rfl (by show 3 ≤ 19; decide) fun cx hcx => ?_
  refine tri_sub (sl 0 rfl (sl 1 rfl (sl 2 rfl sn))) en ?_
  refine tri_seq ?_
  refine tri_reg mixed hcx ?_ _ _
  refine bxs 10 rfl ?_
  refine bxs 11 rfl ?_
  refine nw 12 zeQ ?_
  refine asg rfl ?_
  refine ⟨by kernel_rfl, ?_⟩
  refine nx (sl 2 rfl (sl 3 rfl (sl 4 rfl (sl 6 rfl sn)))) (el 10 rfl (el 11 rfl (el 12 rfl en))) ?_
  refine tri_seq ?_
  refine tri_seq ?_
  refine tri_reg mixed hcx ?_ _ _
  refine ld rfl rfl tyQ rfl ?_
  refine ld rfl rfl tyQ rfl ?_
  refine bs (c := cQ (k + l)) (xs := [q, r]) slQs rfl ⟨q_eq rfl (by omega), q_eq rfl (by omega), trivial⟩ ?_
  refine ca rfl (h := rat_valid (by omega) (by simp)) (hn := ?_)
  refine asg rfl ?_
  refine ⟨by kernel_rfl, ?_⟩
  refine nx (sl 2 rfl (sl 6 rfl (sl 8 rfl sn))) (el 10 rfl (el 11 rfl (el 12 rfl en))) ?_
  refine tri_seq ?_
  refine tri_reg mixed hcx ?_ _ _
  refine mv rfl ?_
  refine cne rfl rfl (decide_eq_false (by omega)) ?_
  refine ⟨by kernel_rfl, ?_⟩
  refine nx (sl 2 rfl (sl 6 rfl (sl 8 rfl (sl 14 rfl sn)))) (el 10 rfl (el 11 rfl (el 12 rfl en))) ?_
  refine tri_false rfl rfl ?_
  refine tri_skip ?_
  refine nx (sl 2 rfl (sl 6 rfl sn)) (el 10 rfl (el 11 rfl (el 12 rfl en))) ?_
  refine tri_seq ?_
  refine tri_as 2 (Z := T.fn f Cs) rfl clo_ge ?_
  refine tri_reg mixed hcx ?_ _ _
  refine mv rfl ?_
  refine cf rfl rfl hf hen ?_
  refine st rfl rfl rfl tyQ rfl ?_
  refine asg rfl ?_
  refine ⟨by kernel_rfl, ?_⟩
  refine nx (sl 6 rfl (sl 7 rfl sn)) (el 10 rfl (el 11 rfl (el 12 rfl en))) ?_
  refine tri_ret ?_
  repeat (first | refine pn_thenr ?_ | refine pn_blkr ?_)
  exact ret2 hcx rfl (rv_cell (c' := cx) (n := 0) rfl rfl tyQ rfl) (rv_tmp rfl) (.refl _) en

theorem rat_Add1 {q r : Rat} {k l : Nat} (hk : k ≤ 137438953472) (hl : l ≤ 137438953472) : Fn Try.prog 87 [T.fp (T.Q q k), T.fp (T.Q r l)] [] [] [] (T.Q (q + r) (3 * (k + l) + 1)) := by
  refine fn_of Try.func87 rfl (by show 2 ≤ 20; decide) fun cx hcx => ?_
  refine tri_sub (sl 0 rfl (sl 1 rfl sn)) en ?_
  have hd1 := den_ne q; have hd2 := den_ne r; have hdd : (q.den : Int) * (r.den : Int) ≠ 0 := Int.mul_ne_zero hd1 hd2
  refine tri_seq ?_
  refine tri_reg mixed hcx ?_ _ _
  refine nw 10 zeQ ?_
  refine ⟨by kernel_rfl, ?_⟩
  refine nx (sl 0 rfl (sl 1 rfl (sl 2 rfl sn))) (el 10 rfl en) ?_
  refine tri_seq ?_
  refine tri_reg mixed hcx ?_ _ _
  refine ff rfl fNum rfl ?_
  refine lf rfl tyZ ?_
  refine ff rfl fDen rfl ?_
  refine lf rfl tyZ ?_
  refine ca rfl (h := zi_Mul (by omega) (by omega)) (hn := ?_)
  refine ff rfl fNum rfl ?_
  refine lf rfl tyZ ?_
  refine ff rfl fDen rfl ?_
  refine lf rfl tyZ ?_
  refine ca rfl (h := zi_Mul (by omega) (by omega)) (hn := ?_)
  refine ca rfl (h := zi_Add (by omega) (by omega)) (hn := ?_)
  refine ff rfl fDen rfl ?_
  refine lf rfl tyZ ?_
  refine ff rfl fDen rfl ?_
  refine lf rfl tyZ ?_
  refine ca rfl (h := zi_Mul (by omega) (by omega)) (hn := ?_)
  refine ca rfl (h := rat_mk (by assumption) (by omega) (by omega)) (hn := ?_)
  refine st rfl rfl rfl tyQ rfl ?_
  refine ⟨by kernel_rfl, ?_⟩
  refine nx (sl 2 rfl sn) (el 10 rfl en) ?_
  refine tri_ret ?_
  repeat (first | refine pn_thenr ?_ | refine pn_blkr ?_)
  exact ret1 hcx rfl (rv_cell (c' := cx) (n := 0) rfl rfl tyQ rfl) (q_eq (rat_adds q r) (by omega)) en

theorem rat_Mul1 {q r : Rat} {k l : Nat} (hk : k ≤ 137438953472) (hl : l ≤ 137438953472) : Fn Try.prog 88 [T.fp (T.Q q k), T.fp (T.Q r l)] [] [] [] (T.Q (q * r) (2 * (k + l))) := by
  refine fn_of Try.func88 rfl (by show 2 ≤ 14; decide) fun cx hcx => ?_
  refine tri_sub (sl 0 rfl (sl 1 rfl sn)) en ?_
  have hd1 := den_ne q; have hd2 := den_ne r; have hdd : (q.den : Int) * (r.den : Int) ≠ 0 := Int.mul_ne_zero hd1 hd2
  refine tri_seq ?_
  refine tri_reg mixed hcx ?_ _ _
  refine nw 10 zeQ ?_
  refine ⟨by kernel_rfl, ?_⟩
  refine nx (sl 0 rfl (sl 1 rfl (sl 2 rfl sn))) (el 10 rfl en) ?_
  refine tri_seq ?_
  refine tri_reg mixed hcx ?_ _ _
  refine ff rfl fNum rfl ?_
  refine lf rfl tyZ ?_
  refine ff rfl fNum rfl ?_
  refine lf rfl tyZ ?_
  refine ca rfl (h := zi_Mul (by omega) (by omega)) (hn := ?_)
  refine ff rfl fDen rfl ?_
  refine lf rfl tyZ ?_
  refine ff rfl fDen rfl ?_
  refine lf rfl tyZ ?_
  refine ca rfl (h := zi_Mul (by omega) (by omega)) (hn := ?_)
  refine ca rfl (h := rat_mk (by assumption) (by omega) (by omega)) (hn := ?_)
  refine st rfl rfl rfl tyQ rfl ?_
  refine ⟨by kernel_rfl, ?_⟩
  refine nx (sl 2 rfl sn) (el 10 rfl en) ?_
  refine tri_ret ?_
  repeat (first | refine pn_thenr ?_ | refine pn_blkr ?_)
  exact ret1 hcx rfl (rv_cell (c' := cx) (n := 0) rfl rfl tyQ rfl) (q_eq (rat_muls q r) (by omega)) en

theorem rat_Add {q r : Rat} {k l : Nat} (hk : k ≤ 137438953472) (hl : l ≤ 137438953472) : Fn Try.prog 49 [T.Q q k, T.Q r l] [] [] [] (T.tup [T.Q (q + r) (3 * (k + l) + 1), T.c (.int .i64 0)]) := by
  refine fn_of Try.func49 rfl (by show 2 ≤ 12; decide) fun cx hcx => ?_
  refine tri_sub (sl 0 rfl (sl 1 rfl sn)) en ?_
  have hfn := rat_Add1 (q := q) (r := r) hk hl
  have hclo := clo_le (f := 87) (Cs := [T.fp (T.Q q k), T.fp (T.Q r l)]) (h := rfl)
  refine tri_seq ?_
  refine tri_reg mixed hcx ?_ _ _
  refine bxs 10 rfl ?_
  refine bxs 11 rfl ?_
  refine nw 12 zeQ ?_
  refine asg rfl ?_
  refine ⟨by kernel_rfl, ?_⟩
  refine nx (sl 2 rfl (sl 3 rfl (sl 4 rfl sn))) (el 10 rfl (el 11 rfl (el 12 rfl en))) ?_
  refine tri_seq ?_
  refine tri_fzb 2 10 rfl rfl (by show (4 : Nat) ≠ 0; decide) ?_
  refine tri_fzb 3 11 rfl rfl (by show (4 : Nat) ≠ 0; decide) ?_
  refine tri_sub (sl 2 rfl (sl 3 rfl (sl 4 rfl sn))) (el 12 rfl en) ?_
  refine tri_reg mixed hcx ?_ _ _
  refine lf rfl tyQ ?_
  refine lf rfl tyQ ?_
  refine mf rfl ?_
  refine ca rfl (h := rat_two hfn (by intro a w; kernel_rfl) rfl (by omega) (by omega)) (hn := ?_)
  refine ex rfl rfl ?_
  refine ex rfl rfl ?_
  refine st rfl rfl rfl tyQ rfl ?_
  refine asg rfl ?_
  refine ⟨by kernel_rfl, ?_⟩
  refine nx (sl 4 rfl (sl 5 rfl sn)) (el 12 rfl en) ?_
  refine tri_ret ?_
  repeat (first | refine pn_thenr ?_ | refine pn_blkr ?_)
  exact ret2 hcx rfl (rv_cell (c' := cx) (n := 0) rfl rfl tyQ rfl) (rv_tmp rfl) (.refl _) en

theorem rat_Mul {q r : Rat} {k l : Nat} (hk : k ≤ 137438953472) (hl : l ≤ 137438953472) : Fn Try.prog 51 [T.Q q k, T.Q r l] [] [] [] (T.tup [T.Q (q * r) (2 * (k + l)), T.c (.int .i64 0)]) := by
  refine fn_of Try.func51 rfl (by show 2 ≤ 12; decide) fun cx hcx => ?_
  refine tri_sub (sl 0 rfl (sl 1 rfl sn)) en ?_
  have hfn := rat_Mul1 (q := q) (r := r) hk hl
  have hclo := clo_le (f := 88) (Cs := [T.fp (T.Q q k), T.fp (T.Q r l)]) (h := rfl)
  refine tri_seq ?_
  refine tri_reg mixed hcx ?_ _ _
  refine bxs 10 rfl ?_
  refine bxs 11 rfl ?_
  refine nw 12 zeQ ?_
  refine asg rfl ?_
  refine ⟨by kernel_rfl, ?_⟩
  refine nx (sl 2 rfl (sl 3 rfl (sl 4 rfl sn))) (el 10 rfl (el 11 rfl (el 12 rfl en))) ?_
  refine tri_seq ?_
  refine tri_fzb 2 10 rfl rfl (by show (4 : Nat) ≠ 0; decide) ?_
  refine tri_fzb 3 11 rfl rfl (by show (4 : Nat) ≠ 0; decide) ?_
  refine tri_sub (sl 2 rfl (sl 3 rfl (sl 4 rfl sn))) (el 12 rfl en) ?_
  refine tri_reg mixed hcx ?_ _ _
  refine lf rfl tyQ ?_
  refine lf rfl tyQ ?_
  refine mf rfl ?_
  refine ca rfl (h := rat_two hfn (by intro a w; kernel_rfl) rfl (by omega) (by omega)) (hn := ?_)
  refine ex rfl rfl ?_
  refine ex rfl rfl ?_
  refine st rfl rfl rfl tyQ rfl ?_
  refine asg rfl ?_
  refine ⟨by kernel_rfl, ?_⟩
  refine nx (sl 4 rfl (sl 5 rfl sn)) (el 12 rfl en) ?_
  refine tri_ret ?_
  repeat (first | refine pn_thenr ?_ | refine pn_blkr ?_)
  exact ret2 hcx rfl (rv_cell (c' := cx) (n := 0) rfl rfl tyQ rfl) (rv_tmp rfl) (.refl _) en
end Go.Proofs.Ytffnfbhhjjbjbaa.V
/- The document: sums and products of fractions. -/
set_option linter.unusedVariables false
set_option linter.unusedSimpArgs false
set_option maxRecDepth 100000
namespace Go.Proofs.Ytffnfbhhjjbjbaa.V
open Go.RowKit Mt Nml
end Go.Proofs.Ytffnfbhhjjbjbaa.V
/- The squared length of a sum of rows, by the data: what is reckoned, and how large its parts are. -/
set_option linter.unusedVariables false
namespace Go.Proofs.Ytffnfbhhjjbjbaa.V
open Mt Nml
/-- The numerator of row i's part behind t steps, over D[i + 1]. -/
def nuU (D : List Int) (L : List (List Int)) (x : List Int) (i : Nat) : Nat → Int
  | 0 => x.getD i 0 * D.getD (i + 1) 0
  | t + 1 => nuU D L x i t + x.getD (i + 1 + t) 0 * (L.getD (i + 1 + t) []).getD i 0
/-- Row i's part behind t steps. -/
def yU (D : List Int) (L : List (List Int)) (x : List Int) (i : Nat) : Nat → Rat
  | 0 => ((x.getD i 0 : Int) : Rat)
  | t + 1 => yU D L x i t + ((x.getD (i + 1 + t) 0 * (L.getD (i + 1 + t) []).getD i 0 : Int) : Rat) / ((D.getD (i + 1) 0 : Int) : Rat)
/-- The sum behind i rows of n. -/
def sU (D : List Int) (L : List (List Int)) (x : List Int) (n : Nat) : Nat → Rat
  | 0 => 0
  | i + 1 => sU D L x n i + yU D L x i (n - (i + 1)) * yU D L x i (n - (i + 1)) * (((D.getD (i + 1) 0 : Int) : Rat) / ((D.getD i 0 : Int) : Rat))
def pU (D : List Int) : Nat → Int
  | 0 => 1
  | i + 1 => pU D i * (D.getD i 0 * D.getD (i + 1) 0)
def muU (D : List Int) (L : List (List Int)) (x : List Int) (n : Nat) : Nat → Int
  | 0 => 0
  | i + 1 => muU D L x n i * (D.getD i 0 * D.getD (i + 1) 0) + nuU D L x i (n - (i + 1)) * nuU D L x i (n - (i + 1)) * pU D i
theorem rat_ne {z : Int} (h : z ≠ 0) : (z : Rat) ≠ 0 := fun e => h (Rat.intCast_inj.1 (by rw [e]; rfl))
theorem yU_nu {D : List Int} {L : List (List Int)} {x : List Int} {i : Nat} (h : D.getD (i + 1) 0 ≠ 0) : ∀ t, yU D L x i t = ((nuU D L x i t : Int) : Rat) / ((D.getD (i + 1) 0 : Int) : Rat)
  | 0 => by
    show ((x.getD i 0 : Int) : Rat) = ((x.getD i 0 * D.getD (i + 1) 0 : Int) : Rat) / _
    rw [Rat.intCast_mul, Rat.mul_div_cancel (rat_ne h)]
  | t + 1 => by
    show yU D L x i t + _ / _ = ((nuU D L x i t + _ : Int) : Rat) / _
    rw [yU_nu h t, Rat.intCast_add, Rat.div_def, Rat.div_def, Rat.div_def, Rat.add_mul]
theorem nu_bd {D : List Int} {L : List (List Int)} {x : List Int} {i k : Nat} (hx : ∀ j, zl (x.getD j 0) ≤ k) (hD : zl (D.getD (i + 1) 0) ≤ k) (hL : ∀ j, zl ((L.getD j []).getD i 0) ≤ k) : ∀ t, zl (nuU D L x i t) ≤ k + k + t
  | 0 => show zl (x.getD i 0 * D.getD (i + 1) 0) ≤ k + k from zl_mul (hx i) hD
  | t + 1 => zl_add_max (nu_bd hx hD hL t) (Nat.le_trans (zl_mul (hx _) (hL _)) (Nat.le_add_right _ _))
theorem p_ne {D : List Int} : ∀ {n : Nat}, (∀ i, i ≤ n → D.getD i 0 ≠ 0) → pU D n ≠ 0
  | 0, _ => by show (1 : Int) ≠ 0; decide
  | n + 1, h => Int.mul_ne_zero (p_ne fun i hi => h i (by omega)) (Int.mul_ne_zero (h n (by omega)) (h (n + 1) (by omega)))
theorem frac_sum {m p n a b : Rat} (hp : p ≠ 0) (ha : a ≠ 0) (hb : b ≠ 0) : m / p + n / b * (n / b) * (b / a) = (m * (a * b) + n * n * p) / (p * (a * b)) := by grind
theorem sU_mu {D : List Int} {L : List (List Int)} {x : List Int} {n : Nat} : ∀ {i : Nat}, (∀ j, j ≤ i → D.getD j 0 ≠ 0) → sU D L x n i = ((muU D L x n i : Int) : Rat) / ((pU D i : Int) : Rat)
  | 0, _ => by show (0 : Rat) = ((0 : Int) : Rat) / ((1 : Int) : Rat); simp [Rat.div_def]
  | i + 1, h => by
    show sU D L x n i + yU D L x i _ * yU D L x i _ * _ = ((muU D L x n i * (D.getD i 0 * D.getD (i + 1) 0) + nuU D L x i (n - (i + 1)) * nuU D L x i (n - (i + 1)) * pU D i : Int) : Rat) / ((pU D i * (D.getD i 0 * D.getD (i + 1) 0) : Int) : Rat)
    rw [sU_mu (i := i) (fun j hj => h j (by omega)), yU_nu (h (i + 1) (Nat.le_refl _)), frac_sum (rat_ne (p_ne fun j hj => h j (by omega))) (rat_ne (h i (by omega))) (rat_ne (h (i + 1) (by omega)))]
    simp only [Rat.intCast_add, Rat.intCast_mul]
theorem p_bd {D : List Int} {k : Nat} : ∀ {n : Nat}, (∀ i, i ≤ n → zl (D.getD i 0) ≤ k) → zl (pU D n) ≤ 1 + n * (k + k)
  | 0, _ => Nat.le_trans zl_one (by omega)
  | n + 1, h => by
    rw [Nat.succ_mul, ← Nat.add_assoc]
    exact zl_mul (p_bd fun i hi => h i (by omega)) (zl_mul (h n (by omega)) (h (n + 1) (by omega)))
theorem mu_bd {D : List Int} {L : List (List Int)} {x : List Int} {n k : Nat} (hx : ∀ j, zl (x.getD j 0) ≤ k) (hL : ∀ i j, zl ((L.getD j []).getD i 0) ≤ k) : ∀ {i : Nat}, (∀ j, j ≤ i → zl (D.getD j 0) ≤ k) → zl (muU D L x n i) ≤ i * (k + k + 1) + (2 * (k + k + n) + 1)
  | 0, _ => by rw [show muU D L x n 0 = 0 from rfl, show zl 0 = 0 from by unfold zl; exact lim_zero]; omega
  | i + 1, h => by
    have h1 := mu_bd (n := n) hx hL (i := i) (fun j hj => h j (by omega))
    have h2 := zl_mul h1 (zl_mul (h i (by omega)) (h (i + 1) (by omega)))
    have h3 := nu_bd (D := D) (L := L) (x := x) (i := i) (k := k) hx (h (i + 1) (by omega)) (hL i) (n - (i + 1))
    have h4 := zl_mul (zl_mul h3 h3) (p_bd (D := D) (n := i) (fun j hj => h j (by omega)))
    have e : (i + 1) * (k + k + 1) = i * (k + k) + i + (k + k + 1) := by rw [Nat.succ_mul, Nat.mul_add, Nat.mul_one]
    have e2 : i * (k + k + 1) = i * (k + k) + i := by rw [Nat.mul_add, Nat.mul_one]
    rw [e]
    rw [e2] at h2
    exact Nat.le_trans (zl_add_max (k := i * (k + k) + i + (k + k) + (2 * (k + k + n) + 1)) (Nat.le_trans h2 (by omega)) (Nat.le_trans h4 (by omega))) (by omega)
theorem y_QB {D : List Int} {L : List (List Int)} {x : List Int} {i k t : Nat} (hx : ∀ j, zl (x.getD j 0) ≤ k) (hD : zl (D.getD (i + 1) 0) ≤ k) (hL : ∀ j, zl ((L.getD j []).getD i 0) ≤ k) (h : D.getD (i + 1) 0 ≠ 0) : QB (yU D L x i t) (k + k + t) := by
  rw [yU_nu h t]
  have := qb_div (nu_bd hx hD hL t) hD h
  exact ⟨Nat.le_trans this.1 (Nat.max_le.2 ⟨Nat.le_refl _, by omega⟩), Nat.le_trans this.2 (Nat.max_le.2 ⟨Nat.le_refl _, by omega⟩)⟩
theorem s_QB {D : List Int} {L : List (List Int)} {x : List Int} {n i k : Nat} (hx : ∀ j, zl (x.getD j 0) ≤ k) (hL : ∀ i j, zl ((L.getD j []).getD i 0) ≤ k) (hD : ∀ j, j ≤ i → zl (D.getD j 0) ≤ k) (h : ∀ j, j ≤ i → D.getD j 0 ≠ 0) : QB (sU D L x n i) (i * (k + k + 1) + (2 * (k + k + n) + 1)) := by
  rw [sU_mu h]
  have := qb_div (mu_bd (n := n) hx hL hD) (p_bd hD) (p_ne h)
  have e2 : i * (k + k + 1) = i * (k + k) + i := by rw [Nat.mul_add, Nat.mul_one]
  exact ⟨Nat.le_trans this.1 (Nat.max_le.2 ⟨Nat.le_refl _, by omega⟩), Nat.le_trans this.2 (Nat.max_le.2 ⟨Nat.le_refl _, by omega⟩)⟩
end Go.Proofs.Ytffnfbhhjjbjbaa.V
/- The squared length of a sum of rows. -/
set_option linter.unusedVariables false
set_option linter.unusedSimpArgs false
set_option maxRecDepth 100000
namespace Go.Proofs.Ytffnfbhhjjbjbaa.V
open Go.RowKit Mt Nml
theorem cells_zl {k : Nat} {u : World} : ∀ {l : List Int} {cs : List Value}, Cells B0 u (l.map (cZi k).X) cs → ∀ z ∈ l, zl z ≤ k
  | [], _, _, z, h => by cases h
  | a :: r, cs, ⟨v, rest, _, ⟨i, ⟨k1, k2, k3⟩, _⟩, _, h2⟩, z, h => by
    rcases List.mem_cons.1 h with rfl | h
    · obtain ⟨M, hM⟩ := Int.eq_ofNat_of_zero_le (val_nonneg k1)
      rw [k2, hM]
      exact z_bd (s := i.1) k1 hM k3
    · exact cells_zl h2 z h
theorem zl_zero : zl 0 = 0 := by unfold zl; exact lim_zero
theorem getD_zl {l : List Int} {k : Nat} (h : ∀ z ∈ l, zl z ≤ k) (j : Nat) : zl (l.getD j 0) ≤ k := by
  rw [List.getD_eq_getElem?_getD]
  cases hj : l[j]? with
  | none => rw [show (none : Option Int).getD 0 = 0 from rfl, zl_zero]; omega
  | some z => exact h z (List.mem_of_getElem? hj)
theorem l_zl {k : Nat} {β : Env} {u : World} {l : List Int} {v : Value} (h : (T.l (cZi k) l).rep β u v) : ∀ z ∈ l, zl z ≤ k := fun z hz => by
  obtain ⟨A, n, q, _, h1, _, _, h4⟩ := h
  have hp : 0 < n := by rw [← h1]; exact List.length_pos_of_mem hz
  obtain ⟨ad, _, xs, h5, _⟩ := h4 hp
  exact cells_zl h5 z hz
theorem cells_ll {k : Nat} {u : World} : ∀ {l : List (List Int)} {cs : List Value}, Cells B0 u (l.map (cL (cZi k)).X) cs → ∀ r ∈ l, ∀ z ∈ r, zl z ≤ k
  | [], _, _, r, h => by cases h
  | a :: s, cs, ⟨v, rest, _, h1, _, h2⟩, r, h => by
    rcases List.mem_cons.1 h with rfl | h
    · exact l_zl (k := k) h1
    · exact cells_ll h2 r h
theorem ll_zl {k : Nat} {β : Env} {u : World} {l : List (List Int)} {v : Value} (h : (T.l (cL (cZi k)) l).rep β u v) (i j : Nat) : zl ((l.getD j []).getD i 0) ≤ k := by
  rw [List.getD_eq_getElem?_getD (l := l)]
  cases hj : l[j]? with
  | none => rw [show ((none : Option (List Int)).getD []).getD i 0 = 0 from rfl, zl_zero]; omega
  | some r =>
    obtain ⟨A, n, q, _, h1, _, _, h4⟩ := h
    have hr := List.mem_of_getElem? hj
    have hp : 0 < n := by rw [← h1]; exact List.length_pos_of_mem hr
    obtain ⟨ad, _, xs, h5, _⟩ := h4 hp
    exact getD_zl (cells_ll h5 r hr) i
section
variable {P : Program} {x : Code} {Q : Exit → Act → World → Prop} {ctx : Ctx} {n : Nat} {g : List (Nat × T)} {E : List (Nat × Option Ent)}
theorem tri_lz (t : Nat) {l : List Int} {k : Nat} (ht : lk g t = some (T.l (cZi k) l)) (h : (∀ j, zl (l.getD j 0) ≤ k) → Tri P x Q ctx n g E) : Tri P x Q ctx n g E := fun a w hS => by
  have hS' := hS
  obtain ⟨β, u, F, h1, h2, h3, _⟩ := hS'
  obtain ⟨v, _, hr⟩ := h3 t _ ht
  exact h (getD_zl (l_zl hr)) a w hS
theorem tri_g (t : Nat) {D : List Int} {L : List (List Int)} {k : Nat} (ht : lk g t = some (T.G D L k)) (h : (∀ j, zl (D.getD j 0) ≤ k) → (∀ i j, zl ((L.getD j []).getD i 0) ≤ k) → Tri P x Q ctx n g E) : Tri P x Q ctx n g E := fun a w hS => by
  have hS' := hS
  obtain ⟨β, u, F, h1, h2, h3, _⟩ := hS'
  obtain ⟨v, _, cs, _, v0, r0, _, a0, _, v1, r1, _, a1, _⟩ := h3 t _ ht
  exact h (getD_zl (l_zl a0)) (ll_zl a1) a w hS
end
theorem q_qb {q q' : Rat} {k k' : Nat} (e : q = q') (h : QB q' k') : (T.Q q k).le (T.Q q' k') := by
  subst e
  exact st_le (l := [T.Z q.num k, T.Z (q.den : Int) k]) (l' := [T.Z q.num k', T.Z (q.den : Int) k']) ⟨z_as h.1, z_as h.2, trivial⟩
theorem QB.mono {q : Rat} {k k' : Nat} (h : QB q k) (hk : k ≤ k') : QB q k' := ⟨Nat.le_trans h.1 hk, Nat.le_trans h.2 hk⟩
theorem mul_swap (l d x : Int) : ((l : Int) : Rat) / ((d : Int) : Rat) * ((x : Int) : Rat) = ((x * l : Int) : Rat) / ((d : Int) : Rat) := by
  rw [Rat.intCast_mul, Rat.div_def, Rat.div_def]; grind

theorem g_Norm {D : List Int} {L : List (List Int)} {x : List Int} {k SB : Nat} (hk : k ≤ 1048576) (hG : GoodP D L) (hxl : x.length = L.length) (hn : L.length ≤ 2048) (hSB : L.length * (k + k + 1) + (2 * (k + k + L.length) + 1) ≤ SB) (hSB2 : SB ≤ 8589934592) (hSB0 : 4 ≤ SB) : Fn Try.prog 16 [T.G D L k, T.l (cZi k) x] [] [] [] (T.tup [T.Q (sU D L x L.length L.length) SB, T.c (.int .i64 0)]) := by
  refine fn_of Try.func16 rfl (by show 2 ≤ 100; decide) fun cx hcx => ?_
  refine tri_sub (sl 0 rfl (sl 1 rfl sn)) en ?_
  have hk0 : k ≤ 1073741824 := by omega
  have hLl0 : L.length ≤ 1048576 := by omega
  have hDL := hG.2.1
  refine tri_lz 1 rfl fun hxz => ?_
  refine tri_g 0 rfl fun hDz hLz => ?_
  refine tri_seq ?_
  refine tri_reg mixed hcx ?_ _ _
  refine bxs 10 rfl ?_
  refine nw 11 zeQ ?_
  refine asg rfl ?_
  refine ⟨by kernel_rfl, ?_⟩
  refine nx (sl 1 rfl (sl 2 rfl (sl 4 rfl sn))) (el 10 rfl (el 11 rfl en)) ?_
  refine tri_seq ?_
  refine tri_seq ?_
  refine tri_reg mixed hcx ?_ _ _
  refine ld rfl rfl tyG rfl ?_
  refine ca rfl (h := g_good (q := true) ⟨fun _ => hG, fun _ => rfl⟩ (by omega) (by omega) (by omega)) (hn := ?_)
  refine nt rfl _ rfl ?_
  refine ⟨by kernel_rfl, ?_⟩
  refine nx (sl 1 rfl (sl 2 rfl (sl 4 rfl (sl 16 rfl sn)))) (el 10 rfl (el 11 rfl en)) ?_
  refine tri_false rfl rfl ?_
  refine tri_skip ?_
  refine nx (sl 1 rfl (sl 2 rfl (sl 4 rfl sn))) (el 10 rfl (el 11 rfl en)) ?_
  refine tri_seq ?_
  refine tri_seq ?_
  refine tri_reg mixed hcx ?_ _ _
  refine mv rfl ?_
  refine ln slZs rfl ?_
  refine fa rfl fL 1 ?_
  refine ld rfl rfl tyZss rfl ?_
  refine ln slZss rfl ?_
  refine cne rfl rfl (decide_eq_false (by omega)) ?_
  refine ⟨by kernel_rfl, ?_⟩
  refine nx (sl 1 rfl (sl 2 rfl (sl 4 rfl (sl 23 rfl sn)))) (el 10 rfl (el 11 rfl en)) ?_
  refine tri_false rfl rfl ?_
  refine tri_skip ?_
  refine nx (sl 1 rfl (sl 2 rfl (sl 4 rfl sn))) (el 10 rfl (el 11 rfl en)) ?_
  refine tri_seq ?_
  refine tri_reg mixed hcx ?_ _ _
  refine ca rfl (h := zi_Of (by omega) (by omega)) (hn := ?_)
  refine ca rfl (h := rat_Of (by omega)) (hn := ?_)
  refine nw 512 zeQ ?_
  refine st rfl rfl rfl tyQ rfl ?_
  refine ⟨by kernel_rfl, ?_⟩
  refine nx (sl 1 rfl (sl 2 rfl (sl 4 rfl (sl 6 rfl sn)))) (el 10 rfl (el 11 rfl (el 512 rfl en))) ?_
  refine tri_seq ?_
  refine tri_seq ?_
  refine tri_reg mixed hcx ?_ _ _
  refine mv rfl ?_
  refine ln slZs rfl ?_
  refine mv rfl ?_
  refine ⟨by kernel_rfl, ?_⟩
  refine nx (sl 1 rfl (sl 2 rfl (sl 4 rfl (sl 6 rfl (sl 28 rfl (sl 29 rfl sn)))))) (el 10 rfl (el 11 rfl (el 512 rfl en))) ?_
  refine tri_block ?_
  refine tri_loop (ι := Nat) (fun i => [(1, T.l (cZi k) x), (2, T.p 10 0), (4, T.p 11 0), (6, T.p 512 0), (28, T.c (.int .i64 (x.length : Int))), (29, T.c (.int .i64 (i : Int)))]) (fun i => [(10, some (Ent.box 25 [T.l (cZi k) D, T.l (cL (cZi k)) L])), (11, some (Ent.box 32 [T.c (.bool false), T.c (.slice none 0 0), T.c (.bool false), T.c (.slice none 0 0)])), (512, some (Ent.box 32 [T.Q (sU D L x L.length i) (SB)]))]) (fun i => x.length - i) (fun i => (i ≤ L.length)) 0 (Nat.zero_le _) (sl 1 rfl (sl 2 rfl (sl 4 rfl (sl 6 rfl (sl 28 rfl (sl 29 rfl sn)))))) (el 10 rfl (el 11 rfl (ew 512 rfl (box_pack1 (q_eq (by rfl) (by omega))) en))) ?_
  rintro i hi
  refine tri_sub (sl 1 rfl (sl 2 rfl (sl 4 rfl (sl 6 rfl (sl 28 rfl (sl 29 rfl sn)))))) (el 10 rfl (el 11 rfl (el 512 rfl en))) ?_
  refine tri_seq ?_
  refine tri_reg mixed hcx ?_ _ _
  refine clt rfl rfl rfl ?_
  refine ⟨by kernel_rfl, ?_⟩
  refine nx (sl 1 rfl (sl 2 rfl (sl 4 rfl (sl 6 rfl (sl 28 rfl (sl 29 rfl (sl 30 rfl sn))))))) (el 10 rfl (el 11 rfl (el 512 rfl en))) ?_
  refine tri_seq ?_
  refine tri_if rfl (fun hc => ?_) (fun hc => ?_)
  · have hne : D.getD (i + 1) (cZi k).dflt ≠ 0 := Int.ne_of_gt (hG.pos (by omega))
    have hyq := fun t => y_QB (t := t) hxz (hDz (i + 1)) (hLz i) hne
    have hsq := s_QB (n := L.length) (i := i + 1) hxz hLz (fun j _ => hDz j) (fun j hj => Int.ne_of_gt (hG.pos (by omega)))
    have hsb : (i + 1) * (k + k + 1) + (2 * (k + k + L.length) + 1) ≤ SB := Nat.le_trans (Nat.add_le_add_right (Nat.mul_le_mul_right _ (by omega)) _) hSB
    refine tri_skip ?_
    refine nx (sl 1 rfl (sl 2 rfl (sl 4 rfl (sl 6 rfl (sl 28 rfl (sl 29 rfl sn)))))) (el 10 rfl (el 11 rfl (el 512 rfl en))) ?_
    refine tri_seq ?_
    refine tri_block ?_
    refine tri_seq ?_
    refine tri_reg mixed hcx ?_ _ _
    refine mv rfl ?_
    refine asg rfl ?_
    refine ⟨by kernel_rfl, ?_⟩
    refine nx (sl 1 rfl (sl 2 rfl (sl 4 rfl (sl 6 rfl (sl 7 rfl (sl 28 rfl (sl 29 rfl sn))))))) (el 10 rfl (el 11 rfl (el 512 rfl en))) ?_
    refine tri_seq ?_
    refine tri_reg mixed hcx ?_ _ _
    refine mv rfl ?_
    refine mv rfl ?_
    refine ix rfl rfl slZs ⟨rfl, by omega⟩ ?_
    refine lf rfl tyZ ?_
    refine ca rfl (h := rat_Of (by omega)) (hn := ?_)
    refine nw 915 zeQ ?_
    refine st rfl rfl rfl tyQ rfl ?_
    refine ⟨by kernel_rfl, ?_⟩
    refine nx (sl 1 rfl (sl 2 rfl (sl 4 rfl (sl 6 rfl (sl 7 rfl (sl 8 rfl (sl 28 rfl (sl 29 rfl sn)))))))) (el 10 rfl (el 11 rfl (el 512 rfl (el 915 rfl en)))) ?_
    refine tri_seq ?_
    refine tri_seq ?_
    refine tri_reg mixed hcx ?_ _ _
    refine mv rfl ?_
    refine ad (((i + 1 : Nat) : Int)) rfl rfl rfl (by omega) ?_
    refine asg rfl ?_
    refine ⟨by kernel_rfl, ?_⟩
    refine nx (sl 1 rfl (sl 2 rfl (sl 4 rfl (sl 6 rfl (sl 7 rfl (sl 8 rfl (sl 9 rfl (sl 28 rfl (sl 29 rfl sn))))))))) (el 10 rfl (el 11 rfl (el 512 rfl (el 915 rfl en)))) ?_
    refine tri_block ?_
    refine tri_loop (ι := Nat) (fun t => [(1, T.l (cZi k) x), (2, T.p 10 0), (4, T.p 11 0), (6, T.p 512 0), (7, T.c (.int .i64 (i : Int))), (8, T.p 915 0), (9, T.c (.int .i64 ((i + 1 + t : Nat) : Int))), (28, T.c (.int .i64 (x.length : Int))), (29, T.c (.int .i64 (i : Int)))]) (fun t => [(10, some (Ent.box 25 [T.l (cZi k) D, T.l (cL (cZi k)) L])), (11, some (Ent.box 32 [T.c (.bool false), T.c (.slice none 0 0), T.c (.bool false), T.c (.slice none 0 0)])), (512, some (Ent.box 32 [T.Q (sU D L x L.length i) (SB)])), (915, some (Ent.box 32 [T.Q (yU D L x i t) (k + k + L.length + 2)]))]) (fun t => x.length - t) (fun t => (i + 1 + t ≤ L.length)) 0 (by omega) (sl 1 rfl (sl 2 rfl (sl 4 rfl (sl 6 rfl (sl 7 rfl (sl 8 rfl (sw 9 rfl (ci (by omega)) (sl 28 rfl (sl 29 rfl sn))))))))) (el 10 rfl (el 11 rfl (el 512 rfl (ew 915 rfl (box_pack1 (q_eq rfl (by omega))) en)))) ?_
    rintro t ht
    refine tri_sub (sl 1 rfl (sl 2 rfl (sl 4 rfl (sl 6 rfl (sl 7 rfl (sl 8 rfl (sl 9 rfl (sl 28 rfl (sl 29 rfl sn))))))))) (el 10 rfl (el 11 rfl (el 512 rfl (el 915 rfl en)))) ?_
    refine tri_seq ?_
    refine tri_seq ?_
    refine tri_reg mixed hcx ?_ _ _
    refine mv rfl ?_
    refine mv rfl ?_
    refine ln slZs rfl ?_
    refine clt rfl rfl rfl ?_
    refine ⟨by kernel_rfl, ?_⟩
    refine nx (sl 1 rfl (sl 2 rfl (sl 4 rfl (sl 6 rfl (sl 7 rfl (sl 8 rfl (sl 9 rfl (sl 28 rfl (sl 29 rfl (sl 42 rfl sn)))))))))) (el 10 rfl (el 11 rfl (el 512 rfl (el 915 rfl en)))) ?_
    refine tri_if rfl (fun hd => ?_) (fun hd => ?_)
    · have hLj : (L.getD (i + 1 + t) (cL (cZi k)).dflt).length = i + 1 + t := (hG.2.2.2 (i + 1 + t) (by omega)).1
      refine tri_skip ?_
      refine nx (sl 1 rfl (sl 2 rfl (sl 4 rfl (sl 6 rfl (sl 7 rfl (sl 8 rfl (sl 9 rfl (sl 28 rfl (sl 29 rfl sn))))))))) (el 10 rfl (el 11 rfl (el 512 rfl (el 915 rfl en)))) ?_
      refine tri_seq ?_
      refine tri_block ?_
      refine tri_seq ?_
      refine tri_reg mixed hcx ?_ _ _
      refine mv rfl ?_
      refine mv rfl ?_
      refine ix rfl rfl slZs ⟨rfl, by omega⟩ ?_
      refine lf rfl tyZ ?_
      refine fa rfl fL 1 ?_
      refine ld rfl rfl tyZss rfl ?_
      refine mv rfl ?_
      refine ix rfl rfl slZss ⟨rfl, by omega⟩ ?_
      refine lf rfl tyZs ?_
      refine mv rfl ?_
      refine ix rfl rfl slZs ⟨rfl, by omega⟩ ?_
      refine lf rfl tyZ ?_
      refine ca rfl (h := zi_Mul (by omega) (by omega)) (hn := ?_)
      refine fa rfl fD 0 ?_
      refine ld rfl rfl tyZs rfl ?_
      refine mv rfl ?_
      refine ad (((i + 1 : Nat) : Int)) rfl rfl rfl (by omega) ?_
      refine ix rfl rfl slZs ⟨rfl, by omega⟩ ?_
      refine lf rfl tyZ ?_
      refine ca rfl (h := rat_Make hne (by omega) (by omega)) (hn := ?_)
      refine mv rfl ?_
      refine ex rfl rfl ?_
      refine ex rfl rfl ?_
      refine nw 1333 zeQ ?_
      refine st rfl rfl rfl tyQ rfl ?_
      refine asg rfl ?_
      refine ⟨by kernel_rfl, ?_⟩
      refine nx (sl 1 rfl (sl 2 rfl (sl 4 rfl (sl 6 rfl (sl 7 rfl (sl 8 rfl (sl 9 rfl (sl 10 rfl (sl 28 rfl (sl 29 rfl sn)))))))))) (el 10 rfl (el 11 rfl (el 512 rfl (el 915 rfl (el 1333 rfl en))))) ?_
      refine tri_reg mixed hcx ?_ _ _
      refine ld rfl rfl tyQ rfl ?_
      refine ld rfl rfl tyQ rfl ?_
      refine ca rfl (h := rat_Add (by omega) (by omega)) (hn := ?_)
      refine mv rfl ?_
      refine ex rfl rfl ?_
      refine ex rfl rfl ?_
      refine st rfl rfl rfl tyQ rfl ?_
      refine ⟨by kernel_rfl, ?_⟩
      refine pn_blk ?_
      refine nx (sl 1 rfl (sl 2 rfl (sl 4 rfl (sl 6 rfl (sl 7 rfl (sl 8 rfl (sl 9 rfl (sl 28 rfl (sl 29 rfl sn))))))))) (el 10 rfl (el 11 rfl (el 512 rfl (el 915 rfl (el 1333 rfl en))))) ?_
      refine tri_reg mixed hcx ?_ _ _
      refine mv rfl ?_
      refine ad (((i + 1 + (t + 1) : Nat) : Int)) rfl rfl rfl (by omega) ?_
      refine asg rfl ?_
      refine ⟨by kernel_rfl, ?_⟩
      exact pn_back (t + 1) (by first | omega | (dsimp only; omega)) (by omega) (sl 1 rfl (sl 2 rfl (sl 4 rfl (sl 6 rfl (sl 7 rfl (sl 8 rfl (sw 9 rfl (ci (by omega)) (sl 28 rfl (sl 29 rfl sn))))))))) (el 10 rfl (el 11 rfl (el 512 rfl (ew 915 rfl (box_pack1 (q_qb rfl (QB.mono (hyq (t + 1)) (by omega)))) en))))
    · refine tri_exit ?_
      repeat (first | refine pn_then ?_ | refine pn_oth (by decide) ?_)
      refine pn_ex ?_
      have ht2 : t = L.length - (i + 1) := by omega
      refine nx (sl 1 rfl (sl 2 rfl (sl 4 rfl (sl 6 rfl (sl 7 rfl (sl 8 rfl (sl 28 rfl (sl 29 rfl sn)))))))) (el 10 rfl (el 11 rfl (el 512 rfl (el 915 rfl en)))) ?_
      refine tri_seq ?_
      refine tri_reg mixed hcx ?_ _ _
      refine ld rfl rfl tyG rfl ?_
      refine mv rfl ?_
      refine ca rfl (h := g_Star hk0 hLl0 hG (show i < L.length by omega)) (hn := ?_)
      refine mv rfl ?_
      refine ex rfl rfl ?_
      refine ex rfl rfl ?_
      refine nw 1516 zeQ ?_
      refine st rfl rfl rfl tyQ rfl ?_
      refine asg rfl ?_
      refine ⟨by kernel_rfl, ?_⟩
      refine nx (sl 1 rfl (sl 2 rfl (sl 4 rfl (sl 6 rfl (sl 8 rfl (sl 12 rfl (sl 28 rfl (sl 29 rfl sn)))))))) (el 10 rfl (el 11 rfl (el 512 rfl (el 915 rfl (el 1516 rfl en))))) ?_
      refine tri_seq ?_
      refine tri_reg mixed hcx ?_ _ _
      refine ld rfl rfl tyQ rfl ?_
      refine ld rfl rfl tyQ rfl ?_
      refine ca rfl (h := rat_Mul (by omega) (by omega)) (hn := ?_)
      refine mv rfl ?_
      refine ex rfl rfl ?_
      refine ex rfl rfl ?_
      refine st rfl rfl rfl tyQ rfl ?_
      refine ⟨by kernel_rfl, ?_⟩
      refine nx (sl 1 rfl (sl 2 rfl (sl 4 rfl (sl 6 rfl (sl 8 rfl (sl 12 rfl (sl 28 rfl (sl 29 rfl sn)))))))) (el 10 rfl (el 11 rfl (el 512 rfl (el 915 rfl (el 1516 rfl en))))) ?_
      refine tri_seq ?_
      refine tri_reg mixed hcx ?_ _ _
      refine ld rfl rfl tyQ rfl ?_
      refine ld rfl rfl tyQ rfl ?_
      refine ca rfl (h := rat_Mul (by omega) (by omega)) (hn := ?_)
      refine mv rfl ?_
      refine ex rfl rfl ?_
      refine ex rfl rfl ?_
      refine st rfl rfl rfl tyQ rfl ?_
      refine ⟨by kernel_rfl, ?_⟩
      refine nx (sl 1 rfl (sl 2 rfl (sl 4 rfl (sl 6 rfl (sl 8 rfl (sl 28 rfl (sl 29 rfl sn))))))) (el 10 rfl (el 11 rfl (el 512 rfl (el 915 rfl (el 1516 rfl en))))) ?_
      refine tri_reg mixed hcx ?_ _ _
      refine ld rfl rfl tyQ rfl ?_
      refine ld rfl rfl tyQ rfl ?_
      refine ca rfl (h := rat_Add (by omega) (by omega)) (hn := ?_)
      refine mv rfl ?_
      refine ex rfl rfl ?_
      refine ex rfl rfl ?_
      refine st rfl rfl rfl tyQ rfl ?_
      refine ⟨by kernel_rfl, ?_⟩
      refine pn_blk ?_
      refine nx (sl 1 rfl (sl 2 rfl (sl 4 rfl (sl 6 rfl (sl 28 rfl (sl 29 rfl sn)))))) (el 10 rfl (el 11 rfl (el 512 rfl (el 915 rfl (el 1516 rfl en))))) ?_
      refine tri_reg mixed hcx ?_ _ _
      refine ad (((i + 1 : Nat) : Int)) rfl rfl rfl (by omega) ?_
      refine mv rfl ?_
      refine ⟨by kernel_rfl, ?_⟩
      exact pn_back (i + 1) (by first | omega | (dsimp only; omega)) (by omega) (sl 1 rfl (sl 2 rfl (sl 4 rfl (sl 6 rfl (sl 28 rfl (sl 29 rfl sn)))))) (el 10 rfl (el 11 rfl (ew 512 rfl (box_pack1 (q_qb (by rw [ht2]; rfl) (QB.mono hsq hsb))) en)))
  · refine tri_exit ?_
    repeat (first | refine pn_then ?_ | refine pn_oth (by decide) ?_)
    refine pn_ex ?_
    obtain rfl : i = L.length := by omega
    refine nx (sl 4 rfl (sl 6 rfl sn)) (el 10 rfl (el 11 rfl (el 512 rfl en))) ?_
    refine tri_seq ?_
    refine tri_reg mixed hcx ?_ _ _
    refine ld rfl rfl tyQ rfl ?_
    refine st rfl rfl rfl tyQ rfl ?_
    refine asg rfl ?_
    refine ⟨by kernel_rfl, ?_⟩
    refine nx (sl 4 rfl (sl 5 rfl sn)) (el 10 rfl (el 11 rfl (el 512 rfl en))) ?_
    refine tri_ret ?_
    repeat (first | refine pn_thenr ?_ | refine pn_blkr ?_)
    exact ret2 hcx rfl (rv_cell (c' := cx) (n := 0) rfl rfl tyQ rfl) (rv_tmp rfl) (.refl _) en

end Go.Proofs.Ytffnfbhhjjbjbaa.V
/- The law of the squared lengths. -/
set_option linter.unusedVariables false
set_option linter.unusedSimpArgs false
set_option maxRecDepth 100000
namespace Go.Proofs.Ytffnfbhhjjbjbaa.V
open Go.RowKit Mt Nml
end Go.Proofs.Ytffnfbhhjjbjbaa.V
/- What is read of data of rows, with the number of rows bounded by what is read. -/
set_option linter.unusedVariables false
set_option linter.unusedSimpArgs false
namespace Go.Proofs.Ytffnfbhhjjbjbaa.V
open Go.Deep Go.ChangeShapes Go.WideShapes Go.ChangeAt Go.RowKit Mt Nml

theorem read_listp {α : Type} (c : Cod α) (p : Nat → α → Prop) {W : World} {base : Nat} {a : Addr} : ∀ {len : Nat}, (∀ i, i < len → ∃ z cs' v, W.cells? base (a.add (i * c.sz)) c.sz = some cs' ∧ v.cells.toList = cs' ∧ (c.X z).rep B0 W v ∧ p i z) → ∃ l : List α, l.length = len ∧ (∀ i, i < len → p i (l.getD i c.dflt)) ∧ ∃ xs, Els c l W xs ∧ Stand W a xs ∧ xs.length = len * c.sz
  | 0, _ => ⟨[], rfl, fun i hi => absurd hi (Nat.not_lt_zero _), [], rfl, fun j v h => by simp at h, by simp⟩
  | len + 1, hx => by
    obtain ⟨l, hl, hp, xs, hE, hS, hn⟩ := read_listp c p (len := len) (fun i hi => hx i (by omega))
    obtain ⟨z, cs', v, h1, h2, h3, h5⟩ := hx len (by omega)
    obtain ⟨_, k1, k2⟩ := World.cells?_some h1
    refine ⟨l ++ [z], by rw [List.length_append, hl]; rfl, fun i hi => ?_, xs ++ cs', ?_, fun j y hy => ?_, by rw [List.length_append, hn, k1, Nat.succ_mul]⟩
    · rcases Nat.lt_or_ge i len with h | h
      · rw [gl_lt (by omega)]; exact hp i h
      · rw [gl_eq (by omega), show i = len by omega]; exact h5
    · show Cells B0 W ((l ++ [z]).map c.X) (xs ++ cs')
      rw [List.map_append, ← h2]
      exact Cells.append hE (cells_one (by rw [c.sz0]; exact c.pos) h3)
    · rcases Nat.lt_or_ge j xs.length with h | h
      · rw [List.getElem?_append_left h] at hy; exact hS j y hy
      · obtain ⟨d, rfl⟩ : ∃ d, j = xs.length + d := ⟨j - xs.length, by omega⟩
        rw [List.getElem?_append_right h, Nat.add_sub_cancel_left] at hy
        have hj : d < c.sz := by rw [← k1]; exact (List.getElem?_eq_some_iff.1 hy).1
        have := k2 d hj
        rw [hy] at this
        rw [← this, hn]
        rw [← addr_add_add]
section
variable {H : Type} {enc : TypeId × Value → H} {W : World} {base : Nat} {spare : Nat → Bool} {held : Bool} {fuel : Nat} {cs : List Value} {x : DataW H × List MemPlace}
end
end Go.Proofs.Ytffnfbhhjjbjbaa.V
/- What is read of rows, with the lengths of the rows bounded by what is read. -/
set_option linter.unusedVariables false
set_option linter.unusedSimpArgs false
namespace Go.Proofs.Ytffnfbhhjjbjbaa.V
open Go.Deep Go.ChangeShapes Go.WideShapes Go.ChangeAt Go.RowKit Mt Nml
section
variable {H : Type} {enc : TypeId × Value → H} {W : World} {base : Nat} {spare : Nat → Bool} {held : Bool} {fuel : Nat} {cs : List Value} {x : DataW H × List MemPlace}
theorem read_rows3 {k : Nat} (h : DataW.trod enc Try.prog W base spare held fuel 23 cs = some x) (hk : Rows.uptoBulk x.1 ≤ k) : ∃ v l, cs = [v] ∧ (T.l (cL (cZi k)) l).rep B0 W v ∧ l.length ≤ k ∧ ∀ i, i < l.length → (l.getD i []).length ≤ k := by
  rcases open_slice Try.underlying23 h with ⟨rfl, rfl⟩ | ⟨a, len, cap, m, n, D, Pl, rfl, hb, hl, hm, hmm, rfl, hx⟩
  · exact ⟨_, [], rfl, nil_l _ _ _ _ rfl, Nat.zero_le _, fun i hi => absurd hi (Nat.not_lt_zero _)⟩
  · have hml : len ≤ m := by rw [hmm]; split <;> omega
    have hbl : len ≤ Rows.uptoBulkAll ((List.range len).map D) := by have := bulk_all (l := (List.range len).map D); simpa using this
    have hbk : Rows.uptoBulkAll ((List.range len).map D) + Rows.uptoBulkAll ((List.range (m - len)).map fun j => D (len + j)) + 1 ≤ k := hk
    obtain ⟨l, h1, hp, xs, h2, h3, h4⟩ := read_listp (cL (cZi k)) (fun i z => z.length ≤ k) (W := W) (base := base) (a := a) (len := len) (fun i hi => by
      obtain ⟨cs', k1, k2⟩ := hx i (by omega)
      rw [show Try.prog.cellsOf 22 = 1 from by kernel_rfl] at k1
      have hbi : Rows.uptoBulk (D i) ≤ k := by have := bulk_mem (l := (List.range len).map D) (List.mem_map_of_mem (List.mem_range.2 hi)); omega
      obtain ⟨v, z, e, hz, hzl⟩ := read_ints (k := k) k2 hbi
      subst e
      refine ⟨z, [v], v, k1, ?_, hz, Nat.le_trans hzl hbi⟩
      obtain ⟨A, n, q, rfl, _⟩ := hz
      rfl)
    refine ⟨_, l, rfl, ⟨some a, len, cap, rfl, h1, hl, by unfold maxLen at hm; omega, fun hp => ⟨a, rfl, xs, h2, h3⟩⟩, by omega, fun i hi => ?_⟩
    exact hp i (by omega)
end
end Go.Proofs.Ytffnfbhhjjbjbaa.V
/- How the model's orders of two floats read off their bits. Plain mathematics of words; no condition but that no word is a NaN where said. -/
namespace Go.Proofs.Ytffnfbhhjjbjbaa.Fl
open Ieee

def rung (b : Nat) : Nat := b % 9223372036854775808
def sgn (b : Nat) : Bool := b / 9223372036854775808 % 2 == 1
def mag (r : Nat) : Nat := if r < 4503599627370496 then r else (4503599627370496 + r % 4503599627370496) * 2 ^ (r / 4503599627370496 - 1)
def INF : Nat := 9218868437227405312
def key (b : Nat) : Int := if sgn b then -(rung b : Int) else rung b
def isN (b : Nat) : Bool := decide (INF < rung b)

theorem d_sw : double.signWeight = 9223372036854775808 := by decide
theorem d_bin : double.binade = 4503599627370496 := by decide
theorem d_inf : double.infRung = 9218868437227405312 := by decide
theorem d_least : double.leastPlace = -1074 := by decide

theorem mag_step (r : Nat) : mag r < mag (r + 1) := by
  unfold mag
  by_cases h1 : r + 1 < 4503599627370496
  · rw [if_pos h1, if_pos (by omega)]; omega
  by_cases h2 : r < 4503599627370496
  · have e : r = 4503599627370495 := by omega
    subst e
    decide
  rw [if_neg h2, if_neg h1]
  obtain ⟨q, hq⟩ : ∃ q, r / 4503599627370496 = q + 1 := ⟨r / 4503599627370496 - 1, by omega⟩
  obtain ⟨t, ht⟩ : ∃ t, r % 4503599627370496 = t := ⟨_, rfl⟩
  have htl : t < 4503599627370496 := by omega
  by_cases h3 : t + 1 < 4503599627370496
  · have e1 : (r + 1) / 4503599627370496 = q + 1 := by omega
    have e2 : (r + 1) % 4503599627370496 = t + 1 := by omega
    rw [hq, ht, e1, e2]
    exact Nat.mul_lt_mul_of_pos_right (by omega) (Nat.two_pow_pos _)
  · have e1 : (r + 1) / 4503599627370496 = q + 2 := by omega
    have e2 : (r + 1) % 4503599627370496 = 0 := by omega
    rw [hq, ht, e1, e2, show q + 2 - 1 = (q + 1 - 1) + 1 from by omega, Nat.pow_succ]
    have := Nat.two_pow_pos (q + 1 - 1)
    generalize 2 ^ (q + 1 - 1) = z at this ⊢
    have e : t = 4503599627370495 := by omega
    subst e
    omega

theorem mag_lt {r s : Nat} (h : r < s) : mag r < mag s := by
  induction s with
  | zero => omega
  | succ s ih =>
    rcases Nat.lt_or_ge r s with h1 | h1
    · exact Nat.lt_trans (ih h1) (mag_step s)
    · have : r = s := by omega
      subst this; exact mag_step r

theorem mag_iff {r s : Nat} : mag r < mag s ↔ r < s := by
  refine ⟨fun h => ?_, mag_lt⟩
  rcases Nat.lt_trichotomy r s with h1 | h1 | h1
  · exact h1
  · subst h1; omega
  · have := mag_lt h1; omega

theorem mag_pos {r : Nat} : 0 < mag r ↔ 0 < r := by
  have := @mag_iff 0 r
  rwa [show mag 0 = 0 from rfl] at this

theorem read_num {b : Nat} (h : rung b < INF) : ∃ m e : Nat, double.read b = .number (sgn b) m (-1074 + (e : Int)) ∧ m * 2 ^ e = mag (rung b) := by
  unfold INF at h
  unfold Format.read
  rw [d_sw, d_bin, d_inf, d_least]
  show ∃ m e : Nat, (if rung b < 4503599627370496 then Datum.number (sgn b) (rung b) (-1074) else if rung b < 9218868437227405312 then .number (sgn b) (4503599627370496 + rung b % 4503599627370496) (-1074 + (rung b / 4503599627370496 - 1 : Nat)) else _) = _ ∧ _
  unfold mag
  by_cases h1 : rung b < 4503599627370496
  · rw [if_pos h1, if_pos h1]
    exact ⟨rung b, 0, by simp, by simp⟩
  · rw [if_neg h1, if_pos h, if_neg h1]
    exact ⟨_, _, rfl, rfl⟩

theorem read_inf {b : Nat} (h : rung b = INF) : double.read b = .infinity (sgn b) := by
  unfold INF at h
  unfold Format.read
  rw [d_sw, d_bin, d_inf, d_least]
  show (if rung b < 4503599627370496 then Datum.number (sgn b) (rung b) (-1074) else if rung b < 9218868437227405312 then .number (sgn b) (4503599627370496 + rung b % 4503599627370496) (-1074 + (rung b / 4503599627370496 - 1 : Nat)) else if rung b = 9218868437227405312 then .infinity (sgn b) else _) = _
  rw [if_neg (by omega), if_neg (by omega), if_pos h]

theorem read_nan {b : Nat} (h : INF < rung b) : ∃ s t, double.read b = .nan s t := by
  unfold INF at h
  unfold Format.read
  rw [d_sw, d_bin, d_inf, d_least]
  show ∃ s t, (if rung b < 4503599627370496 then Datum.number (sgn b) (rung b) (-1074) else if rung b < 9218868437227405312 then .number (sgn b) (4503599627370496 + rung b % 4503599627370496) (-1074 + (rung b / 4503599627370496 - 1 : Nat)) else if rung b = 9218868437227405312 then .infinity (sgn b) else .nan (sgn b) (rung b - 9218868437227405312)) = .nan s t
  rw [if_neg (by omega), if_neg (by omega), if_neg (by omega)]
  exact ⟨_, _, rfl⟩

theorem cmp_eq {a b c d : Int} (h1 : a < b ↔ c < d) (h2 : b < a ↔ d < c) : compare a b = compare c d := by
  simp only [compare, compareOfLessAndEq]
  by_cases x : a < b
  · rw [if_pos x, if_pos (h1.1 x)]
  · rw [if_neg x, if_neg (fun y => x (h1.2 y))]
    by_cases z : b < a
    · rw [if_neg (by omega), if_neg (by have := h2.1 z; omega)]
    · rw [if_pos (by omega), if_pos (by have := fun y => z (h2.2 y); have := fun y => x (h1.2 y); omega)]

theorem cmp_lt {a b : Int} (h : a < b) : compare a b = .lt := by
  simp only [compare, compareOfLessAndEq]; rw [if_pos h]
theorem cmp_gt {a b : Int} (h : b < a) : compare a b = .gt := by
  simp only [compare, compareOfLessAndEq]; rw [if_neg (by omega), if_neg (by omega)]

theorem signed_cmp (s t : Bool) (a b c d : Nat) (h1 : a < b ↔ c < d) (h2 : b < a ↔ d < c) (p1 : 0 < a ↔ 0 < c) (p2 : 0 < b ↔ 0 < d) :
    compare (if s then -(a : Int) else a) (if t then -(b : Int) else b) = compare (if s then -(c : Int) else c) (if t then -(d : Int) else d) := by
  refine cmp_eq ?_ ?_ <;> cases s <;> cases t <;> simp <;> omega

theorem order_num {x y : Nat} (hx : rung x < INF) (hy : rung y < INF) : double.order x y = some (compare (key x) (key y)) := by
  obtain ⟨m, e, h1, h2⟩ := read_num hx
  obtain ⟨n, f, h3, h4⟩ := read_num hy
  unfold Format.order
  rw [h1, h3]
  show some (compare (signed (sgn x) m (-1074 + (e : Int) - min (-1074 + (e : Int)) (-1074 + (f : Int))).toNat) (signed (sgn y) n (-1074 + (f : Int) - min (-1074 + (e : Int)) (-1074 + (f : Int))).toNat)) = _
  have e1 : (-1074 + (e : Int) - min (-1074 + (e : Int)) (-1074 + (f : Int))).toNat = e - min e f := by omega
  have e2 : (-1074 + (f : Int) - min (-1074 + (e : Int)) (-1074 + (f : Int))).toNat = f - min e f := by omega
  rw [e1, e2]
  unfold signed key
  congr 1
  have k1 : (m <<< (e - min e f)) * 2 ^ min e f = mag (rung x) := by
    rw [Nat.shiftLeft_eq, Nat.mul_assoc, ← Nat.pow_add, show e - min e f + min e f = e from by omega, h2]
  have k2 : (n <<< (f - min e f)) * 2 ^ min e f = mag (rung y) := by
    rw [Nat.shiftLeft_eq, Nat.mul_assoc, ← Nat.pow_add, show f - min e f + min e f = f from by omega, h4]
  have kp := Nat.two_pow_pos (min e f)
  refine signed_cmp _ _ _ _ _ _ ?_ ?_ ?_ ?_
  · rw [← @mag_iff (rung x), ← k1, ← k2]; exact (Nat.mul_lt_mul_right kp).symm
  · rw [← @mag_iff (rung y), ← k1, ← k2]; exact (Nat.mul_lt_mul_right kp).symm
  · rw [← @mag_pos (rung x), ← k1]; exact ⟨fun h => Nat.mul_pos h kp, fun h => Nat.pos_of_mul_pos_right h⟩
  · rw [← @mag_pos (rung y), ← k2]; exact ⟨fun h => Nat.mul_pos h kp, fun h => Nat.pos_of_mul_pos_right h⟩

/-- The order of two words that are no NaNs is that of their keys. -/
theorem order_key {x y : Nat} (hx : rung x ≤ INF) (hy : rung y ≤ INF) : double.order x y = some (compare (key x) (key y)) := by
  rcases Nat.lt_or_eq_of_le hx with hx | hx <;> rcases Nat.lt_or_eq_of_le hy with hy | hy
  · exact order_num hx hy
  · obtain ⟨m, e, h1, _⟩ := read_num hx
    unfold Format.order
    rw [h1, read_inf hy]
    show some (if sgn y then Ordering.gt else Ordering.lt) = _
    unfold key
    rw [hy]
    congr 1
    unfold INF at *
    cases sgn y <;> cases sgn x <;> first | exact (cmp_lt (by simp; omega)).symm | exact (cmp_gt (by simp; omega)).symm
  · obtain ⟨m, e, h1, _⟩ := read_num hy
    unfold Format.order
    rw [h1, read_inf hx]
    show some (if sgn x then Ordering.lt else Ordering.gt) = _
    unfold key
    rw [hx]
    congr 1
    unfold INF at *
    cases sgn y <;> cases sgn x <;> first | exact (cmp_lt (by simp; omega)).symm | exact (cmp_gt (by simp; omega)).symm
  · unfold Format.order
    rw [read_inf hx, read_inf hy]
    show some (compare (sgn y).toNat (sgn x).toNat) = _
    unfold key
    rw [hx, hy]
    cases sgn y <;> cases sgn x <;> decide

theorem order_nan {x y : Nat} (h : INF < rung x ∨ INF < rung y) : double.order x y = none := by
  unfold Format.order
  rcases h with h | h
  · obtain ⟨s, t, e⟩ := read_nan h
    rw [e]; rfl
  · obtain ⟨s, t, e⟩ := read_nan h
    rw [e]; cases double.read x <;> rfl

/-! ### The tests that the program makes -/
theorem sgn_of {b : Nat} (hb : b < 18446744073709551616) : sgn b = decide (9223372036854775808 ≤ b) := by
  unfold sgn
  by_cases h : 9223372036854775808 ≤ b
  · rw [decide_eq_true h, show b / 9223372036854775808 = 1 from by omega]; rfl
  · rw [decide_eq_false h, show b / 9223372036854775808 = 0 from by omega]; rfl
theorem rung_of {b : Nat} (hb : b < 18446744073709551616) : rung b = if 9223372036854775808 ≤ b then b - 9223372036854775808 else b := by
  unfold rung
  split <;> omega
theorem key_of {b : Nat} (hb : b < 18446744073709551616) : key b = if 9223372036854775808 ≤ b then 9223372036854775808 - (b : Int) else b := by
  unfold key
  rw [sgn_of hb, rung_of hb]
  by_cases h : 9223372036854775808 ≤ b
  · rw [decide_eq_true h, if_pos h, if_pos h, if_pos rfl]; omega
  · rw [decide_eq_false h, if_neg h, if_neg h]; rfl
theorem lt_of_cmp (a b : Int) : (some (compare a b) == some Ordering.lt) = decide (a < b) := by
  simp only [compare, compareOfLessAndEq]
  by_cases h : a < b
  · rw [if_pos h, decide_eq_true h]; rfl
  · by_cases h2 : a = b
    · rw [if_neg h, if_pos h2, decide_eq_false h]; rfl
    · rw [if_neg h, if_neg h2, decide_eq_false h]; rfl
theorem ord_lt (x y : Nat) : (FloatKind.f64.format.order x y == some .lt) = (!isN x && !isN y && decide (key x < key y)) := by
  show (double.order x y == some .lt) = _
  unfold isN
  by_cases h1 : INF < rung x
  · rw [order_nan (.inl h1), decide_eq_true h1]; rfl
  by_cases h2 : INF < rung y
  · rw [order_nan (.inr h2), decide_eq_true h2]; cases decide (INF < rung x) <;> rfl
  rw [order_key (by omega) (by omega), decide_eq_false h1, decide_eq_false h2, lt_of_cmp]; rfl
theorem ord_m {b : Nat} (hb : b < 18446744073709551616) (hn : isN b = false) (h0 : ¬ (b = 0 ∨ b = 9223372036854775808)) : (FloatKind.f64.format.order b 0 == some .lt) = decide (¬ b < 9223372036854775808) := by
  rw [ord_lt, hn, show isN 0 = false from by decide, key_of hb, show key 0 = 0 from by decide]
  simp only [Bool.not_false, Bool.true_and]
  refine decide_eq_decide.2 ?_
  split <;> omega
/-- The least float above, by its bits. -/
def up (b : Nat) : Nat := if isN b = true ∨ b = 9218868437227405312 then b else if b = 0 ∨ b = 9223372036854775808 then 1 else if b < 9223372036854775808 then b + 1 else b - 1
def ng (b : Nat) : Nat := Op.negFloat .f64 b
def dn (b : Nat) : Nat := ng (up (ng b))
def low (b : Nat) : Nat := if isN b = true then 18442240474082181120 else dn b
end Go.Proofs.Ytffnfbhhjjbjbaa.Fl
/- Floats in the logic of calls: a float is a word that is no NaN, or some NaN. -/
set_option linter.unusedVariables false
set_option linter.unusedSimpArgs false
set_option maxRecDepth 100000
namespace Go.Proofs.Ytffnfbhhjjbjbaa.V
open Go.RowKit Mt Nml

/-- A word, where it is no NaN. -/
def fo (b : Nat) : Option Nat := if Fl.isN b then none else some b
def T.F (o : Option Nat) : T := T.ex 1 false (fun b : Nat => b < 18446744073709551616 ∧ fo b = o) (fun b => T.c (.float .f64 b)) (fun _ => ⟨rfl, rfl, rfl⟩)
class BLt (b : Nat) : Prop where lt : b < 18446744073709551616
class IsF (X : T) (o : outParam (Option Nat)) : Prop where le : X.le (T.F o)
instance (o : Option Nat) : IsF (T.F o) o := ⟨.refl _⟩
instance (b : Nat) [h : BLt b] : IsF (T.c (.float .f64 b)) (fo b) := ⟨fun β u v k => ⟨b, ⟨h.lt, rfl⟩, k⟩⟩
instance : BLt 0 := ⟨by decide⟩
instance : BLt 9218868437227405311 := ⟨by decide⟩
instance : BLt 4602678819172646912 := ⟨by decide⟩
instance : BLt 4607182418800017408 := ⟨by decide⟩
def oLt : Option Nat → Option Nat → Bool
  | some x, some y => decide (Fl.key x < Fl.key y)
  | _, _ => false
theorem fo_lt (x y : Nat) : (FloatKind.f64.format.order x y == some .lt) = oLt (fo x) (fo y) := by
  rw [Fl.ord_lt]; unfold fo
  cases hx : Fl.isN x <;> cases hy : Fl.isN y <;> simp [oLt]
section
variable {P : Program} {ops : Array Oper} {fin : List OpS → List (Nat × T) → List (Nat × Option Ent) → Prop} {r : List Oper} {H : List OpS} {g : List (Nat × T)} {E : List (Nat × Option Ent)} {o : Oper}
variable {t : Option Nat} {ty : TypeId} {ps : String} {af : Array Edge} {gd : Option (Nat × Bool)} {x y : Operand} {X Y : T} {e off m n : Nat} {b : Bool} {et : TypeId} {a d : Option Nat}
end
section
variable {P : Program} {ops : Array Oper} {fin : List OpS → List (Nat × T) → List (Nat × Option Ent) → Prop} {r : List Oper} {H : List OpS} {g : List (Nat × T)} {E : List (Nat × Option Ent)}
variable {t : Option Nat} {ty : TypeId} {ps : String} {af : Array Edge} {gd : Option (Nat × Bool)} {X : T}
end
end Go.Proofs.Ytffnfbhhjjbjbaa.V
/- Floats: the next one, infinities, the same. -/
set_option linter.unusedVariables false
set_option linter.unusedSimpArgs false
set_option maxRecDepth 100000
namespace Go.Proofs.Ytffnfbhhjjbjbaa.V
open Go.RowKit Mt Nml
section
variable {P : Program} {ops : Array Oper} {fin : List OpS → List (Nat × T) → List (Nat × Option Ent) → Prop} {r : List Oper} {H : List OpS} {g : List (Nat × T)} {E : List (Nat × Option Ent)} {o : Oper}
variable {t : Option Nat} {ty : TypeId} {ps : String} {af : Array Edge} {gd : Option (Nat × Bool)} {x y : Operand} {X Y : T}
end
theorem lt0 {b : Nat} (hb : b < 18446744073709551616) (hn : Fl.isN b = false) (h : ¬ (b = 0 ∨ b = 9223372036854775808)) : oLt (fo b) (fo 0) = decide (¬ b < 9223372036854775808) := by rw [← fo_lt, Fl.ord_m hb hn h]

end Go.Proofs.Ytffnfbhhjjbjbaa.V
/- Floats as fractions; the law of the floats beside each float. -/
set_option linter.unusedVariables false
set_option linter.unusedSimpArgs false
set_option maxRecDepth 100000
namespace Go.Proofs.Ytffnfbhhjjbjbaa.V
open Go.RowKit Mt Nml
end Go.Proofs.Ytffnfbhhjjbjbaa.V
/- Intervals: sums. -/
set_option linter.unusedVariables false
set_option linter.unusedSimpArgs false
set_option maxRecDepth 100000
namespace Go.Proofs.Ytffnfbhhjjbjbaa.V
open Go.RowKit Mt Nml
end Go.Proofs.Ytffnfbhhjjbjbaa.V
/- Intervals: what they hold. -/
set_option linter.unusedVariables false
set_option linter.unusedSimpArgs false
set_option maxRecDepth 100000
namespace Go.Proofs.Ytffnfbhhjjbjbaa.V
open Go.RowKit Mt Nml
/-- A fraction however told. -/
abbrev T.Qi (a b : Int) (k : Nat) : T := T.st [T.Zi a k, T.Zi b k]
theorem qi_mono {a b : Int} {k k' : Nat} (h : k ≤ k') : (T.Qi a b k).le (T.Qi a b k') := st_le (l := [T.Zi a k, T.Zi b k]) (l' := [T.Zi a k', T.Zi b k']) ⟨zi_mono h, zi_mono h, trivial⟩
theorem q_qi (q : Rat) {k k' : Nat} (h : k ≤ k') : (T.Q q k).le (T.Qi q.num (q.den : Int) k') := st_le (l := [T.Z q.num k, T.Z (q.den : Int) k]) (l' := [T.Zi q.num k', T.Zi (q.den : Int) k']) ⟨(z_zi _ _).trans (zi_mono h), (z_zi _ _).trans (zi_mono h), trivial⟩
theorem rat_addG {a b c d : Int} (hb : b ≠ 0) (hd : d ≠ 0) : ((a * d + c * b : Int) : Rat) / ((b * d : Int) : Rat) = (a : Rat) / (b : Rat) + (c : Rat) / (d : Rat) := by
  rw [← Rat.divInt_eq_div, ← Rat.divInt_eq_div, ← Rat.divInt_eq_div, Rat.divInt_add_divInt _ _ hb hd]
theorem rat_mulG (a b c d : Int) : ((a * c : Int) : Rat) / ((b * d : Int) : Rat) = (a : Rat) / (b : Rat) * ((c : Rat) / (d : Rat)) := by
  rw [← Rat.divInt_eq_div, ← Rat.divInt_eq_div, ← Rat.divInt_eq_div, Rat.divInt_mul_divInt]
theorem rat_negG (a b : Int) : ((-a : Int) : Rat) / (b : Rat) = -((a : Rat) / (b : Rat)) := by
  rw [← Rat.divInt_eq_div, ← Rat.divInt_eq_div, Rat.neg_divInt]
theorem rat_nd (q : Rat) : ((q.num : Int) : Rat) / (((q.den : Int)) : Rat) = q := by rw [← Rat.divInt_eq_div, Rat.num_divInt_den]
instance (k : Nat) (q : Int × Int) : Sp ((cQi k).X q) [T.Zi q.1 k, T.Zi q.2 k] := inferInstanceAs (Sp (T.st [T.Zi q.1 k, T.Zi q.2 k]) _)
theorem two_pos {a b c d : Int} (hb : 0 < b) (hd : 0 < d) : ∀ i, i < [(a, b), (c, d)].length → 0 < ([(a, b), (c, d)].getD i (0, 0)).2 := fun i hi => by
  match i, hi with
  | 0, _ => exact hb
  | 1, _ => exact hd

theorem rat_validG {l : List (Int × Int)} {k : Nat} (hk : k ≤ 34359738368) (hl : l.length ≤ 1048576) (hp : ∀ i, i < l.length → 0 < (l.getD i (0, 0)).2) : Fn Try.prog 35 [T.l (cQi k) l] [] [] [] (T.c (.int .i64 0)) := by
  refine fn_of Try.func35 rfl (by show 1 ≤ 16; decide) fun cx hcx => ?_
  refine tri_sub (sl 0 rfl sn) en ?_
  refine tri_seq ?_
  refine tri_reg mixed hcx ?_ _ _
  refine asg rfl ?_
  refine ⟨by kernel_rfl, ?_⟩
  refine nx (sl 0 rfl sn) en ?_
  refine tri_seq ?_
  refine tri_seq ?_
  refine tri_reg mixed hcx ?_ _ _
  refine mv rfl ?_
  refine ln slQs rfl ?_
  refine mv rfl ?_
  refine ⟨by kernel_rfl, ?_⟩
  refine nx (sl 5 rfl (sl 6 rfl (sl 7 rfl sn))) en ?_
  refine tri_block ?_
  refine tri_loop (ι := Nat) (fun i => [(5, T.l (cQi k) l), (6, T.c (.int .i64 (l.length : Int))), (7, T.c (.int .i64 (i : Int)))]) (fun i => []) (fun i => l.length - i) (fun i => (i ≤ l.length)) 0 (Nat.zero_le _) (sl 5 rfl (sl 6 rfl (sl 7 rfl sn))) en ?_
  rintro i hi
  refine tri_sub (sl 5 rfl (sl 6 rfl (sl 7 rfl sn))) en ?_
  refine tri_seq ?_
  refine tri_reg mixed hcx ?_ _ _
  refine clt rfl rfl rfl ?_
  refine ⟨by kernel_rfl, ?_⟩
  refine nx (sl 5 rfl (sl 6 rfl (sl 7 rfl (sl 8 rfl sn)))) en ?_
  refine tri_seq ?_
  refine tri_if rfl (fun hc => ?_) (fun hc => ?_)
  · have hsg : sg (l.getD i (cQi k).dflt).2 = 1 := sg_pos (hp i (by omega))
    refine tri_skip ?_
    refine nx (sl 5 rfl (sl 6 rfl (sl 7 rfl sn))) en ?_
    refine tri_seq ?_
    refine tri_block ?_
    refine tri_seq ?_
    refine tri_reg mixed hcx ?_ _ _
    refine ix rfl rfl slQs ⟨rfl, by omega⟩ ?_
    refine lf rfl tyQ ?_
    refine nw 312 zeQ ?_
    refine sts (zz := [T.Zi (l.getD i (cQi k).dflt).1 k, T.Zi (l.getD i (cQi k).dflt).2 k]) rfl rfl rfl tyQ rfl ?_
    refine ⟨by kernel_rfl, ?_⟩
    refine nx (sl 4 rfl (sl 5 rfl (sl 6 rfl (sl 7 rfl sn)))) (el 312 rfl en) ?_
    refine tri_seq ?_
    refine tri_reg mixed hcx ?_ _ _
    refine fa rfl fDen 2 ?_
    refine ld rfl rfl tyZ rfl ?_
    refine ca rfl (h := zi_Sign (by omega)) (hn := ?_)
    refine cle rfl rfl (decide_eq_false (by omega)) ?_
    refine ⟨by kernel_rfl, ?_⟩
    refine nx (sl 5 rfl (sl 6 rfl (sl 7 rfl (sl 14 rfl sn)))) (el 312 rfl en) ?_
    refine tri_false rfl rfl ?_
    refine tri_skip ?_
    refine pn_blk ?_
    refine nx (sl 5 rfl (sl 6 rfl (sl 7 rfl sn))) (el 312 rfl en) ?_
    refine tri_reg mixed hcx ?_ _ _
    refine ad (((i + 1 : Nat) : Int)) rfl rfl rfl (by omega) ?_
    refine mv rfl ?_
    refine ⟨by kernel_rfl, ?_⟩
    exact pn_back (i + 1) (by first | omega | (dsimp only; omega)) (by omega) (sl 5 rfl (sl 6 rfl (sl 7 rfl sn))) en
  · refine tri_exit ?_
    repeat (first | refine pn_then ?_ | refine pn_oth (by decide) ?_)
    refine pn_ex ?_
    refine nx sn en ?_
    refine tri_seq ?_
    refine tri_reg mixed hcx ?_ _ _
    refine asg rfl ?_
    refine ⟨by kernel_rfl, ?_⟩
    refine nx (sl 2 rfl sn) en ?_
    refine tri_ret ?_
    repeat (first | refine pn_thenr ?_ | refine pn_blkr ?_)
    exact ret1 hcx rfl (rv_tmp rfl) (.refl _) en

theorem rat_CmpG {a b c d : Int} {k l : Nat} (hb : 0 < b) (hd : 0 < d) (hk : k ≤ 17179869184) (hl : l ≤ 17179869184) : Fn Try.prog 12 [T.Qi a b k, T.Qi c d l] [] [] [] (T.tup [T.c (.int .i64 (sgnc (a * d) (c * b))), T.c (.int .i64 0)]) := by
  refine fn_of Try.func12 rfl (by show 2 ≤ 25; decide) fun cx hcx => ?_
  refine tri_sub (sl 0 rfl (sl 1 rfl sn)) en ?_
  refine tri_seq ?_
  refine tri_reg mixed hcx ?_ _ _
  refine bxs 10 rfl ?_
  refine bxs 11 rfl ?_
  refine asg rfl ?_
  refine asg rfl ?_
  refine ⟨by kernel_rfl, ?_⟩
  refine nx (sl 2 rfl (sl 3 rfl sn)) (el 10 rfl (el 11 rfl en)) ?_
  refine tri_seq ?_
  refine tri_seq ?_
  refine tri_reg mixed hcx ?_ _ _
  refine ld rfl rfl tyQ rfl ?_
  refine ld rfl rfl tyQ rfl ?_
  refine bs (c := cQi (k + l)) (xs := [(a, b), (c, d)]) slQs rfl ⟨qi_mono (by omega), qi_mono (by omega), trivial⟩ ?_
  refine ca rfl (h := rat_validG (by omega) (by simp) (two_pos hb hd)) (hn := ?_)
  refine asg rfl ?_
  refine ⟨by kernel_rfl, ?_⟩
  refine nx (sl 2 rfl (sl 3 rfl (sl 6 rfl sn))) (el 10 rfl (el 11 rfl en)) ?_
  refine tri_seq ?_
  refine tri_reg mixed hcx ?_ _ _
  refine mv rfl ?_
  refine cne rfl rfl (decide_eq_false (by omega)) ?_
  refine ⟨by kernel_rfl, ?_⟩
  refine nx (sl 2 rfl (sl 3 rfl (sl 6 rfl (sl 12 rfl sn)))) (el 10 rfl (el 11 rfl en)) ?_
  refine tri_false rfl rfl ?_
  refine tri_skip ?_
  refine nx (sl 2 rfl (sl 3 rfl sn)) (el 10 rfl (el 11 rfl en)) ?_
  refine tri_seq ?_
  refine tri_reg mixed hcx ?_ _ _
  refine fa rfl fNum 0 ?_
  refine ld rfl rfl tyZ rfl ?_
  refine fa rfl fDen 2 ?_
  refine ld rfl rfl tyZ rfl ?_
  refine ca rfl (h := zi_Mul (by omega) (by omega)) (hn := ?_)
  refine fa rfl fNum 0 ?_
  refine ld rfl rfl tyZ rfl ?_
  refine fa rfl fDen 2 ?_
  refine ld rfl rfl tyZ rfl ?_
  refine ca rfl (h := zi_Mul (by omega) (by omega)) (hn := ?_)
  refine ca rfl (h := zi_Compare (by omega) (by omega)) (hn := ?_)
  refine asg rfl ?_
  refine asg rfl ?_
  refine ⟨by kernel_rfl, ?_⟩
  refine nx (sl 4 rfl (sl 5 rfl sn)) (el 10 rfl (el 11 rfl en)) ?_
  refine tri_ret ?_
  repeat (first | refine pn_thenr ?_ | refine pn_blkr ?_)
  exact ret2 hcx rfl (rv_tmp rfl) (rv_tmp rfl) (.refl _) en

section
variable {P : Program} {x : Code} {Q : Exit → Act → World → Prop} {ctx : Ctx} {n : Nat} {g : List (Nat × T)} {E : List (Nat × Option Ent)}
end
end Go.Proofs.Ytffnfbhhjjbjbaa.V
/- Sums, differences, products, quotients of any fractions. -/
set_option linter.unusedVariables false
set_option linter.unusedSimpArgs false
set_option maxRecDepth 100000
namespace Go.Proofs.Ytffnfbhhjjbjbaa.V
open Go.RowKit Mt Nml
theorem rat_subG {a b c d : Int} (hb : b ≠ 0) (hd : d ≠ 0) : ((a * d - c * b : Int) : Rat) / ((b * d : Int) : Rat) = (a : Rat) / (b : Rat) - (c : Rat) / (d : Rat) := by
  rw [Rat.sub_eq_add_neg, ← rat_negG, ← rat_addG hb hd, Int.sub_eq_add_neg, Int.neg_mul]
theorem rat_twoG {a b c d : Int} {s : Rat} {k l m : Nat} {f : FuncId} {Cs : List T} (hb : 0 < b) (hd : 0 < d) (hf : Fn Try.prog f Cs [] [] [] (T.Q s m)) (hen : Enters Try.prog f) (hns : Cs.flatMap (·.ns) = []) (hk : k ≤ 17179869184) (hl : l ≤ 17179869184) : Fn Try.prog 86 [T.Qi a b k, T.Qi c d l, T.clo f Cs hns] [] [] [] (T.tup [T.Q s m, T.c (.int .i64 0)]) := by
  refine fn_of Try.func86 rfl (by show 3 ≤ 19; decide) fun cx hcx => ?_
  refine tri_sub (sl 0 rfl (sl 1 rfl (sl 2 rfl sn))) en ?_
  refine tri_seq ?_
  refine tri_reg mixed hcx ?_ _ _
  refine bxs 10 rfl ?_
  refine bxs 11 rfl ?_
  refine nw 12 zeQ ?_
  refine asg rfl ?_
  refine ⟨by kernel_rfl, ?_⟩
  refine nx (sl 2 rfl (sl 3 rfl (sl 4 rfl (sl 6 rfl sn)))) (el 10 rfl (el 11 rfl (el 12 rfl en))) ?_
  refine tri_seq ?_
  refine tri_seq ?_
  refine tri_reg mixed hcx ?_ _ _
  refine ld rfl rfl tyQ rfl ?_
  refine ld rfl rfl tyQ rfl ?_
  refine bs (c := cQi (k + l)) (xs := [(a, b), (c, d)]) slQs rfl ⟨qi_mono (by omega), qi_mono (by omega), trivial⟩ ?_
  refine ca rfl (h := rat_validG (by omega) (by simp) (two_pos hb hd)) (hn := ?_)
  refine asg rfl ?_
  refine ⟨by kernel_rfl, ?_⟩
  refine nx (sl 2 rfl (sl 6 rfl (sl 8 rfl sn))) (el 10 rfl (el 11 rfl (el 12 rfl en))) ?_
  refine tri_seq ?_
  refine tri_reg mixed hcx ?_ _ _
  refine mv rfl ?_
  refine cne rfl rfl (decide_eq_false (by omega)) ?_
  refine ⟨by kernel_rfl, ?_⟩
  refine nx (sl 2 rfl (sl 6 rfl (sl 8 rfl (sl 14 rfl sn)))) (el 10 rfl (el 11 rfl (el 12 rfl en))) ?_
  refine tri_false rfl rfl ?_
  refine tri_skip ?_
  refine nx (sl 2 rfl (sl 6 rfl sn)) (el 10 rfl (el 11 rfl (el 12 rfl en))) ?_
  refine tri_seq ?_
  refine tri_as 2 (Z := T.fn f Cs) rfl clo_ge ?_
  refine tri_reg mixed hcx ?_ _ _
  refine mv rfl ?_
  refine cf rfl rfl hf hen ?_
  refine st rfl rfl rfl tyQ rfl ?_
  refine asg rfl ?_
  refine ⟨by kernel_rfl, ?_⟩
  refine nx (sl 6 rfl (sl 7 rfl sn)) (el 10 rfl (el 11 rfl (el 12 rfl en))) ?_
  refine tri_ret ?_
  repeat (first | refine pn_thenr ?_ | refine pn_blkr ?_)
  exact ret2 hcx rfl (rv_cell (c' := cx) (n := 0) rfl rfl tyQ rfl) (rv_tmp rfl) (.refl _) en

theorem rat_Add1G {a b c d : Int} {k l : Nat} (hb : 0 < b) (hd : 0 < d) (hk : k ≤ 17179869184) (hl : l ≤ 17179869184) : Fn Try.prog 87 [T.fp (T.Qi a b k), T.fp (T.Qi c d l)] [] [] [] (T.Q ((a : Rat) / (b : Rat) + ((c : Rat) / (d : Rat))) (3 * (k + l) + 1)) := by
  refine fn_of Try.func87 rfl (by show 2 ≤ 20; decide) fun cx hcx => ?_
  refine tri_sub (sl 0 rfl (sl 1 rfl sn)) en ?_
  have hb0 : b ≠ 0 := by omega
  have hd0 : d ≠ 0 := by omega
  have hbd0 : b * d ≠ 0 := Int.mul_ne_zero hb0 hd0
  refine tri_seq ?_
  refine tri_reg mixed hcx ?_ _ _
  refine nw 10 zeQ ?_
  refine ⟨by kernel_rfl, ?_⟩
  refine nx (sl 0 rfl (sl 1 rfl (sl 2 rfl sn))) (el 10 rfl en) ?_
  refine tri_seq ?_
  refine tri_reg mixed hcx ?_ _ _
  refine ff rfl fNum rfl ?_
  refine lf rfl tyZ ?_
  refine ff rfl fDen rfl ?_
  refine lf rfl tyZ ?_
  refine ca rfl (h := zi_Mul (by omega) (by omega)) (hn := ?_)
  refine ff rfl fNum rfl ?_
  refine lf rfl tyZ ?_
  refine ff rfl fDen rfl ?_
  refine lf rfl tyZ ?_
  refine ca rfl (h := zi_Mul (by omega) (by omega)) (hn := ?_)
  refine ca rfl (h := zi_Add (by omega) (by omega)) (hn := ?_)
  refine ff rfl fDen rfl ?_
  refine lf rfl tyZ ?_
  refine ff rfl fDen rfl ?_
  refine lf rfl tyZ ?_
  refine ca rfl (h := zi_Mul (by omega) (by omega)) (hn := ?_)
  refine ca rfl (h := rat_mk (by assumption) (by omega) (by omega)) (hn := ?_)
  refine st rfl rfl rfl tyQ rfl ?_
  refine ⟨by kernel_rfl, ?_⟩
  refine nx (sl 2 rfl sn) (el 10 rfl en) ?_
  refine tri_ret ?_
  repeat (first | refine pn_thenr ?_ | refine pn_blkr ?_)
  exact ret1 hcx rfl (rv_cell (c' := cx) (n := 0) rfl rfl tyQ rfl) (q_eq (rat_addG hb0 hd0) (by omega)) en

theorem rat_AddG {a b c d : Int} {k l : Nat} (hb : 0 < b) (hd : 0 < d) (hk : k ≤ 17179869184) (hl : l ≤ 17179869184) : Fn Try.prog 49 [T.Qi a b k, T.Qi c d l] [] [] [] (T.tup [T.Q ((a : Rat) / (b : Rat) + ((c : Rat) / (d : Rat))) (3 * (k + l) + 1), T.c (.int .i64 0)]) := by
  refine fn_of Try.func49 rfl (by show 2 ≤ 12; decide) fun cx hcx => ?_
  refine tri_sub (sl 0 rfl (sl 1 rfl sn)) en ?_
  have hfn := rat_Add1G (a := a) (b := b) (c := c) (d := d) hb hd hk hl
  have hclo := clo_le (f := 87) (Cs := [T.fp (T.Qi a b k), T.fp (T.Qi c d l)]) (h := rfl)
  refine tri_seq ?_
  refine tri_reg mixed hcx ?_ _ _
  refine bxs 10 rfl ?_
  refine bxs 11 rfl ?_
  refine nw 12 zeQ ?_
  refine asg rfl ?_
  refine ⟨by kernel_rfl, ?_⟩
  refine nx (sl 2 rfl (sl 3 rfl (sl 4 rfl sn))) (el 10 rfl (el 11 rfl (el 12 rfl en))) ?_
  refine tri_seq ?_
  refine tri_fzb 2 10 rfl rfl (by show (4 : Nat) ≠ 0; decide) ?_
  refine tri_fzb 3 11 rfl rfl (by show (4 : Nat) ≠ 0; decide) ?_
  refine tri_sub (sl 2 rfl (sl 3 rfl (sl 4 rfl sn))) (el 12 rfl en) ?_
  refine tri_reg mixed hcx ?_ _ _
  refine lf rfl tyQ ?_
  refine lf rfl tyQ ?_
  refine mf rfl ?_
  refine ca rfl (h := rat_twoG hb hd hfn (by intro a w; kernel_rfl) rfl (by omega) (by omega)) (hn := ?_)
  refine ex rfl rfl ?_
  refine ex rfl rfl ?_
  refine st rfl rfl rfl tyQ rfl ?_
  refine asg rfl ?_
  refine ⟨by kernel_rfl, ?_⟩
  refine nx (sl 4 rfl (sl 5 rfl sn)) (el 12 rfl en) ?_
  refine tri_ret ?_
  repeat (first | refine pn_thenr ?_ | refine pn_blkr ?_)
  exact ret2 hcx rfl (rv_cell (c' := cx) (n := 0) rfl rfl tyQ rfl) (rv_tmp rfl) (.refl _) en

theorem rat_Sub1G {a b c d : Int} {k l : Nat} (hb : 0 < b) (hd : 0 < d) (hk : k ≤ 17179869184) (hl : l ≤ 17179869184) : Fn Try.prog 108 [T.fp (T.Qi a b k), T.fp (T.Qi c d l)] [] [] [] (T.Q ((a : Rat) / (b : Rat) - ((c : Rat) / (d : Rat))) (3 * (k + l) + 1)) := by
  refine fn_of Try.func108 rfl (by show 2 ≤ 20; decide) fun cx hcx => ?_
  refine tri_sub (sl 0 rfl (sl 1 rfl sn)) en ?_
  have hb0 : b ≠ 0 := by omega
  have hd0 : d ≠ 0 := by omega
  have hbd0 : b * d ≠ 0 := Int.mul_ne_zero hb0 hd0
  refine tri_seq ?_
  refine tri_reg mixed hcx ?_ _ _
  refine nw 10 zeQ ?_
  refine ⟨by kernel_rfl, ?_⟩
  refine nx (sl 0 rfl (sl 1 rfl (sl 2 rfl sn))) (el 10 rfl en) ?_
  refine tri_seq ?_
  refine tri_reg mixed hcx ?_ _ _
  refine ff rfl fNum rfl ?_
  refine lf rfl tyZ ?_
  refine ff rfl fDen rfl ?_
  refine lf rfl tyZ ?_
  refine ca rfl (h := zi_Mul (by omega) (by omega)) (hn := ?_)
  refine ff rfl fNum rfl ?_
  refine lf rfl tyZ ?_
  refine ff rfl fDen rfl ?_
  refine lf rfl tyZ ?_
  refine ca rfl (h := zi_Mul (by omega) (by omega)) (hn := ?_)
  refine ca rfl (h := zi_Sub (by omega) (by omega)) (hn := ?_)
  refine ff rfl fDen rfl ?_
  refine lf rfl tyZ ?_
  refine ff rfl fDen rfl ?_
  refine lf rfl tyZ ?_
  refine ca rfl (h := zi_Mul (by omega) (by omega)) (hn := ?_)
  refine ca rfl (h := rat_mk (by assumption) (by omega) (by omega)) (hn := ?_)
  refine st rfl rfl rfl tyQ rfl ?_
  refine ⟨by kernel_rfl, ?_⟩
  refine nx (sl 2 rfl sn) (el 10 rfl en) ?_
  refine tri_ret ?_
  repeat (first | refine pn_thenr ?_ | refine pn_blkr ?_)
  exact ret1 hcx rfl (rv_cell (c' := cx) (n := 0) rfl rfl tyQ rfl) (q_eq (rat_subG hb0 hd0) (by omega)) en

theorem rat_SubG {a b c d : Int} {k l : Nat} (hb : 0 < b) (hd : 0 < d) (hk : k ≤ 17179869184) (hl : l ≤ 17179869184) : Fn Try.prog 77 [T.Qi a b k, T.Qi c d l] [] [] [] (T.tup [T.Q ((a : Rat) / (b : Rat) - ((c : Rat) / (d : Rat))) (3 * (k + l) + 1), T.c (.int .i64 0)]) := by
  refine fn_of Try.func77 rfl (by show 2 ≤ 12; decide) fun cx hcx => ?_
  refine tri_sub (sl 0 rfl (sl 1 rfl sn)) en ?_
  have hfn := rat_Sub1G (a := a) (b := b) (c := c) (d := d) hb hd hk hl
  have hclo := clo_le (f := 108) (Cs := [T.fp (T.Qi a b k), T.fp (T.Qi c d l)]) (h := rfl)
  refine tri_seq ?_
  refine tri_reg mixed hcx ?_ _ _
  refine bxs 10 rfl ?_
  refine bxs 11 rfl ?_
  refine nw 12 zeQ ?_
  refine asg rfl ?_
  refine ⟨by kernel_rfl, ?_⟩
  refine nx (sl 2 rfl (sl 3 rfl (sl 4 rfl sn))) (el 10 rfl (el 11 rfl (el 12 rfl en))) ?_
  refine tri_seq ?_
  refine tri_fzb 2 10 rfl rfl (by show (4 : Nat) ≠ 0; decide) ?_
  refine tri_fzb 3 11 rfl rfl (by show (4 : Nat) ≠ 0; decide) ?_
  refine tri_sub (sl 2 rfl (sl 3 rfl (sl 4 rfl sn))) (el 12 rfl en) ?_
  refine tri_reg mixed hcx ?_ _ _
  refine lf rfl tyQ ?_
  refine lf rfl tyQ ?_
  refine mf rfl ?_
  refine ca rfl (h := rat_twoG hb hd hfn (by intro a w; kernel_rfl) rfl (by omega) (by omega)) (hn := ?_)
  refine ex rfl rfl ?_
  refine ex rfl rfl ?_
  refine st rfl rfl rfl tyQ rfl ?_
  refine asg rfl ?_
  refine ⟨by kernel_rfl, ?_⟩
  refine nx (sl 4 rfl (sl 5 rfl sn)) (el 12 rfl en) ?_
  refine tri_ret ?_
  repeat (first | refine pn_thenr ?_ | refine pn_blkr ?_)
  exact ret2 hcx rfl (rv_cell (c' := cx) (n := 0) rfl rfl tyQ rfl) (rv_tmp rfl) (.refl _) en

theorem rat_Mul1G {a b c d : Int} {k l : Nat} (hb : 0 < b) (hd : 0 < d) (hk : k ≤ 17179869184) (hl : l ≤ 17179869184) : Fn Try.prog 88 [T.fp (T.Qi a b k), T.fp (T.Qi c d l)] [] [] [] (T.Q ((a : Rat) / (b : Rat) * ((c : Rat) / (d : Rat))) (2 * (k + l))) := by
  refine fn_of Try.func88 rfl (by show 2 ≤ 14; decide) fun cx hcx => ?_
  refine tri_sub (sl 0 rfl (sl 1 rfl sn)) en ?_
  have hb0 : b ≠ 0 := by omega
  have hd0 : d ≠ 0 := by omega
  have hbd0 : b * d ≠ 0 := Int.mul_ne_zero hb0 hd0
  refine tri_seq ?_
  refine tri_reg mixed hcx ?_ _ _
  refine nw 10 zeQ ?_
  refine ⟨by kernel_rfl, ?_⟩
  refine nx (sl 0 rfl (sl 1 rfl (sl 2 rfl sn))) (el 10 rfl en) ?_
  refine tri_seq ?_
  refine tri_reg mixed hcx ?_ _ _
  refine ff rfl fNum rfl ?_
  refine lf rfl tyZ ?_
  refine ff rfl fNum rfl ?_
  refine lf rfl tyZ ?_
  refine ca rfl (h := zi_Mul (by omega) (by omega)) (hn := ?_)
  refine ff rfl fDen rfl ?_
  refine lf rfl tyZ ?_
  refine ff rfl fDen rfl ?_
  refine lf rfl tyZ ?_
  refine ca rfl (h := zi_Mul (by omega) (by omega)) (hn := ?_)
  refine ca rfl (h := rat_mk (by assumption) (by omega) (by omega)) (hn := ?_)
  refine st rfl rfl rfl tyQ rfl ?_
  refine ⟨by kernel_rfl, ?_⟩
  refine nx (sl 2 rfl sn) (el 10 rfl en) ?_
  refine tri_ret ?_
  repeat (first | refine pn_thenr ?_ | refine pn_blkr ?_)
  exact ret1 hcx rfl (rv_cell (c' := cx) (n := 0) rfl rfl tyQ rfl) (q_eq (rat_mulG _ _ _ _) (by omega)) en

theorem rat_MulG {a b c d : Int} {k l : Nat} (hb : 0 < b) (hd : 0 < d) (hk : k ≤ 17179869184) (hl : l ≤ 17179869184) : Fn Try.prog 51 [T.Qi a b k, T.Qi c d l] [] [] [] (T.tup [T.Q ((a : Rat) / (b : Rat) * ((c : Rat) / (d : Rat))) (2 * (k + l)), T.c (.int .i64 0)]) := by
  refine fn_of Try.func51 rfl (by show 2 ≤ 12; decide) fun cx hcx => ?_
  refine tri_sub (sl 0 rfl (sl 1 rfl sn)) en ?_
  have hfn := rat_Mul1G (a := a) (b := b) (c := c) (d := d) hb hd hk hl
  have hclo := clo_le (f := 88) (Cs := [T.fp (T.Qi a b k), T.fp (T.Qi c d l)]) (h := rfl)
  refine tri_seq ?_
  refine tri_reg mixed hcx ?_ _ _
  refine bxs 10 rfl ?_
  refine bxs 11 rfl ?_
  refine nw 12 zeQ ?_
  refine asg rfl ?_
  refine ⟨by kernel_rfl, ?_⟩
  refine nx (sl 2 rfl (sl 3 rfl (sl 4 rfl sn))) (el 10 rfl (el 11 rfl (el 12 rfl en))) ?_
  refine tri_seq ?_
  refine tri_fzb 2 10 rfl rfl (by show (4 : Nat) ≠ 0; decide) ?_
  refine tri_fzb 3 11 rfl rfl (by show (4 : Nat) ≠ 0; decide) ?_
  refine tri_sub (sl 2 rfl (sl 3 rfl (sl 4 rfl sn))) (el 12 rfl en) ?_
  refine tri_reg mixed hcx ?_ _ _
  refine lf rfl tyQ ?_
  refine lf rfl tyQ ?_
  refine mf rfl ?_
  refine ca rfl (h := rat_twoG hb hd hfn (by intro a w; kernel_rfl) rfl (by omega) (by omega)) (hn := ?_)
  refine ex rfl rfl ?_
  refine ex rfl rfl ?_
  refine st rfl rfl rfl tyQ rfl ?_
  refine asg rfl ?_
  refine ⟨by kernel_rfl, ?_⟩
  refine nx (sl 4 rfl (sl 5 rfl sn)) (el 12 rfl en) ?_
  refine tri_ret ?_
  repeat (first | refine pn_thenr ?_ | refine pn_blkr ?_)
  exact ret2 hcx rfl (rv_cell (c' := cx) (n := 0) rfl rfl tyQ rfl) (rv_tmp rfl) (.refl _) en

end Go.Proofs.Ytffnfbhhjjbjbaa.V
/- A point along a row. -/
set_option linter.unusedVariables false
set_option linter.unusedSimpArgs false
set_option maxRecDepth 100000
namespace Go.Proofs.Ytffnfbhhjjbjbaa.V
open Go.RowKit Mt Nml
theorem den_p' (q : Rat) : 0 < ((q.den : Int)) := Int.natCast_pos.2 q.den_pos

end Go.Proofs.Ytffnfbhhjjbjbaa.V
/- Fractions by what they are worth. -/
set_option linter.unusedVariables false
set_option linter.unusedSimpArgs false
set_option maxRecDepth 100000
namespace Go.Proofs.Ytffnfbhhjjbjbaa.V
open Go.RowKit Mt Nml
/-- A fraction by what it is worth, however told. -/
def T.V (q : Rat) (k : Nat) : T := T.ex 4 true (fun p : Int × Int => 0 < p.2 ∧ (p.1 : Rat) / (p.2 : Rat) = q ∧ zl p.1 ≤ k ∧ zl p.2 ≤ k) (fun p => T.Qi p.1 p.2 k) (fun _ => ⟨rfl, rfl, rfl⟩)
theorem zi_zl {z : Int} {k : Nat} {β : Env} {u : World} {v : Value} (h : (T.Zi z k).rep β u v) : zl z ≤ k := by
  obtain ⟨i, ⟨k1, k2, k3⟩, _⟩ := h
  obtain ⟨M, hM⟩ := Int.eq_ofNat_of_zero_le (val_nonneg k1)
  rw [k2, hM]
  exact z_bd (s := i.1) k1 hM k3
theorem qi_v {a b : Int} {q : Rat} {k k' : Nat} (hb : 0 < b) (e : (a : Rat) / (b : Rat) = q) (hk : k ≤ k') : (T.Qi a b k).le (T.V q k') := fun β u v h => by
  have h2 := h
  obtain ⟨cs, e1, v1, r1, z1, h1, e2, v2, r2, z2, h3, _⟩ := h
  exact ⟨(a, b), ⟨hb, e, Nat.le_trans (zi_zl h1) hk, Nat.le_trans (zi_zl h3) hk⟩, qi_mono hk _ _ _ h2⟩
theorem q_v (q : Rat) {k k' : Nat} (hk : k ≤ k') : (T.Q q k).le (T.V q k') := (q_qi q hk).trans (qi_v (den_p' q) (rat_nd q) (Nat.le_refl _))
theorem q_v' (q : Rat) (k : Nat) : (T.Q q k).le (T.V q k) := q_v q (Nat.le_refl _)
theorem qi_v' {a b : Int} {k : Nat} (hb : 0 < b) : (T.Qi a b k).le (T.V ((a : Rat) / (b : Rat)) k) := qi_v hb rfl (Nat.le_refl _)
theorem cqi_v {p : Int × Int} {k : Nat} (hb : 0 < p.2) : ((cQi k).X p).le (T.V ((p.1 : Rat) / (p.2 : Rat)) k) := qi_v hb rfl (Nat.le_refl _)
theorem fn_v {P : Program} {f : FuncId} {q : Rat} {k : Nat} (As : List T) {Bs : List T} {Ei Eo : List (Nat × Ent)} {N : List Nat} {R : T} (h : ∀ p : Int × Int, 0 < p.2 → (p.1 : Rat) / (p.2 : Rat) = q → zl p.1 ≤ k → zl p.2 ≤ k → Fn P f (As ++ T.Qi p.1 p.2 k :: Bs) Ei Eo N R) : Fn P f (As ++ T.V q k :: Bs) Ei Eo N R := fn_ex fun p ⟨h1, h2, h3, h4⟩ => h p h1 h2 h3 h4
theorem QB.addv {a b c d : Int} {x y : Rat} {k l : Nat} (hb : 0 < b) (hd : 0 < d) (e : (a : Rat) / (b : Rat) = x) (e2 : (c : Rat) / (d : Rat) = y) (h1 : zl a ≤ k) (h2 : zl b ≤ k) (h3 : zl c ≤ l) (h4 : zl d ≤ l) : QB (x + y) (k + l + 1) := by
  rw [← e, ← e2, ← rat_addG (by omega) (by omega)]
  have h5 := zl_mul h1 h4
  have h6 := zl_mul h3 h2
  have := qb_div (zl_add_max h5 (by rw [Nat.add_comm]; exact h6)) (zl_mul h2 h4) (Int.mul_ne_zero (by omega) (by omega))
  exact QB.mono this (by omega)
theorem QB.subv {a b c d : Int} {x y : Rat} {k l : Nat} (hb : 0 < b) (hd : 0 < d) (e : (a : Rat) / (b : Rat) = x) (e2 : (c : Rat) / (d : Rat) = y) (h1 : zl a ≤ k) (h2 : zl b ≤ k) (h3 : zl c ≤ l) (h4 : zl d ≤ l) : QB (x - y) (k + l + 1) := by
  rw [← e, ← e2, ← rat_subG (by omega) (by omega)]
  have h5 := zl_mul h1 h4
  have h6 := zl_mul h3 h2
  have := qb_div (zl_sub_max h5 (by rw [Nat.add_comm]; exact h6)) (zl_mul h2 h4) (Int.mul_ne_zero (by omega) (by omega))
  exact QB.mono this (by omega)
theorem QB.mulv {a b c d : Int} {x y : Rat} {k l : Nat} (hb : 0 < b) (hd : 0 < d) (e : (a : Rat) / (b : Rat) = x) (e2 : (c : Rat) / (d : Rat) = y) (h1 : zl a ≤ k) (h2 : zl b ≤ k) (h3 : zl c ≤ l) (h4 : zl d ≤ l) : QB (x * y) (k + l) := by
  rw [← e, ← e2, ← rat_mulG]
  have := qb_div (zl_mul h1 h3) (zl_mul h2 h4) (Int.mul_ne_zero (show b ≠ 0 by omega) (show d ≠ 0 by omega))
  exact QB.mono this (by omega)
theorem rv_Add {x y : Rat} {k l : Nat} (hk : k ≤ 17179869184) (hl : l ≤ 17179869184) : Fn Try.prog 49 [T.V x k, T.V y l] [] [] [] (T.tup [T.Q (x + y) (k + l + 1), T.c (.int .i64 0)]) := fn_v [] fun p p1 p2 p3 p4 => fn_v [T.Qi p.1 p.2 k] (Bs := []) fun q q1 q2 q3 q4 => fn_out (rat_AddG p1 q1 hk hl) (tup_le ⟨q_qb (by rw [p2, q2]) (QB.addv p1 q1 p2 q2 p3 p4 q3 q4), .refl _, trivial⟩)

theorem rv_Sub {x y : Rat} {k l : Nat} (hk : k ≤ 17179869184) (hl : l ≤ 17179869184) : Fn Try.prog 77 [T.V x k, T.V y l] [] [] [] (T.tup [T.Q (x - y) (k + l + 1), T.c (.int .i64 0)]) := fn_v [] fun p p1 p2 p3 p4 => fn_v [T.Qi p.1 p.2 k] (Bs := []) fun q q1 q2 q3 q4 => fn_out (rat_SubG p1 q1 hk hl) (tup_le ⟨q_qb (by rw [p2, q2]) (QB.subv p1 q1 p2 q2 p3 p4 q3 q4), .refl _, trivial⟩)

theorem rv_Mul {x y : Rat} {k l : Nat} (hk : k ≤ 17179869184) (hl : l ≤ 17179869184) : Fn Try.prog 51 [T.V x k, T.V y l] [] [] [] (T.tup [T.Q (x * y) (k + l), T.c (.int .i64 0)]) := fn_v [] fun p p1 p2 p3 p4 => fn_v [T.Qi p.1 p.2 k] (Bs := []) fun q q1 q2 q3 q4 => fn_out (rat_MulG p1 q1 hk hl) (tup_le ⟨q_qb (by rw [p2, q2]) (QB.mulv p1 q1 p2 q2 p3 p4 q3 q4), .refl _, trivial⟩)

section
variable {P : Program} {ops : Array Oper} {fin : List OpS → List (Nat × T) → List (Nat × Option Ent) → Prop} {r : List Oper} {H : List OpS} {g : List (Nat × T)} {E : List (Nat × Option Ent)} {o : Oper}
variable {t : Option Nat} {ty : TypeId} {ps : String} {af : Array Edge} {gd : Option (Nat × Bool)} {x y : Operand} {X Y : T} {e off m : Nat} {b : Bool} {l l' : List T} {et : TypeId}
variable {α : Type} {c : Cod α} {xs ys : List α}
/-- A call; fractions are told by what they are worth. -/
theorem cb {f : FuncId} {zs : Array Operand} {tys : Array TypeId} {As Bs : List T} (hA : envs g zs.toList = some As)
    (hl : LeL As Bs := by repeat (first | exact trivial | refine ⟨?_, ?_⟩ | exact q_v' _ _ | exact T.le.refl _ | exact qi_v' (by assumption) | exact cqi_v (by assumption) | exact IsZ.le | exact IsL2.le | exact IsL.le | exact q_le _ _ | assumption))
    (h : Fn P f Bs [] [] [] X) (hn : J P ops fin r (OpS.p X :: H) (putg t X g) E) (hen : Enters P f := by intro a w; kernel_rfl)
    (hg : GuardIs ops g ⟨t, .call ⟨.value (.func f), zs, tys⟩, ty, ps, af, gd⟩ true := by exact gd0) : J P ops fin (⟨t, .call ⟨.value (.func f), zs, tys⟩, ty, ps, af, gd⟩ :: r) H g E :=
  cl hA (fn_le h hl) hn hen hg
/-- A load through a pointer, told otherwise. -/
theorem lfx {ty' : TypeId} (hX : envl g x = some (T.fp Y)) (hT : Ty P ty' b m) (hle : Y.le X) (hn : J P ops fin r (OpS.p X :: H) (putg t X g) E) (hm : Y.sz = m ∧ Y.ag = b := by exact ⟨rfl, rfl⟩) (h1 : (b || m == 1) = true := by rfl) (hg : GuardIs ops g ⟨t, .load ty' x, ty, ps, af, gd⟩ true := by exact gd0) : J P ops fin (⟨t, .load ty' x, ty, ps, af, gd⟩ :: r) H g E :=
  j_val hg (ok_pure fun ρ β u w F hs he hH => by
    obtain ⟨ad, v, h2, h0, h3, h4⟩ := he x (by simp [Op.operands]) _ hX
    obtain ⟨hf, hv⟩ := Y.shp h3 h0
    have hlen : v.cells.toList.length = m := by rw [← hm.1]; exact hf.1
    have := run_loadAt (P := P) (w := w) (ad := ad) (vs := v.cells.toList) (by rw [hlen]; exact hT) (fun j y hy => hs _ _ (h4 j y hy)) (by rw [hlen]; exact ty_one hT h1)
    refine ⟨v, ?_, hle _ _ _ h3⟩
    rw [hm.2] at hv
    rw [← hv] at this
    simp only [execOp, h2, Instr.loadAt, Instr.sureAddr, Sem.run_bind, Result.andThen_ok, Sem.run_pure, this]) hn
end
theorem box_q {et : TypeId} {q q' : Rat} {k k' : Nat} (h : (T.Q q k).le (T.Q q' k')) : (Ent.box et [T.Q q k]).le (Ent.box et [T.Q q' k']) := box_pack1 h
def nd (q : Rat) : Int × Int := (q.num, (q.den : Int))
end Go.Proofs.Ytffnfbhhjjbjbaa.V
/- A logic of calls: pointers that are none, and those that are not. -/
set_option linter.unusedVariables false
set_option linter.unusedSimpArgs false
namespace Go.Proofs.Ytffnfbhhjjbjbaa.V
open Go.RowKit Mt Nml
section
variable {P : Program} {ops : Array Oper} {fin : List OpS → List (Nat × T) → List (Nat × Option Ent) → Prop} {r : List Oper} {H : List OpS} {g : List (Nat × T)} {E : List (Nat × Option Ent)} {o : Oper}
variable {t : Option Nat} {ty : TypeId} {ps : String} {af : Array Edge} {gd : Option (Nat × Bool)} {x y : Operand} {X Y : T} {e off m : Nat} {b : Bool} {l l' : List T} {et : TypeId}
/-- A pointer that is not none. -/
class NN (X : T) : Prop where nn : ∀ {β u v}, X.rep β u v → ∃ a, v = .pointer (some a)
instance (X : T) : NN (T.fp X) := ⟨fun ⟨a, _, h, _⟩ => ⟨a, h⟩⟩
instance (e off : Nat) : NN (T.p e off) := ⟨fun ⟨b, _, h⟩ => ⟨_, h⟩⟩
theorem nk [hn' : NN X] (hX : envl g x = some X) (hn : J P ops fin r (OpS.p X :: H) (putg t X g) E) (hg : GuardIs ops g ⟨t, .nilCheck x, ty, ps, af, gd⟩ true := by exact gd0) : J P ops fin (⟨t, .nilCheck x, ty, ps, af, gd⟩ :: r) H g E :=
  j_val hg (ok_pure fun ρ β u w F hs he hH => by
    have h1 := he x (by simp [Op.operands]) _ hX
    obtain ⟨a, h2⟩ := hn'.nn h1
    exact ⟨ρ x, by simp [execOp, h2], h1⟩) hn
theorem run_eqp {P : Program} {t1 e : TypeId} (hu : P.underlying t1 = some (.pointer e)) (a : Option Addr) (w : World) : (Op.equalIn Op.maxDepth t1 (.pointer a) (.pointer none)).run P w = .ok a.isNone w := by
  unfold Op.maxDepth
  unfold Op.equalIn
  rw [Sem.run_bind, run_underlying hu w]
  cases a <;> rfl
theorem pne {t1 t2 pe : TypeId} [hn' : NN X] (hX : envl g x = some X) (hY : envl g y = some (T.c (.pointer none))) (hu : P.underlying t1 = some (.pointer pe)) (hn : J P ops fin r (OpS.p (T.c (.bool true)) :: H) (putg t (T.c (.bool true)) g) E) (hg : GuardIs ops g ⟨t, .binOp .neq t1 x y t2, ty, ps, af, gd⟩ true := by exact gd0) : J P ops fin (⟨t, .binOp .neq t1 x y t2, ty, ps, af, gd⟩ :: r) H g E :=
  j_val hg (ok_pure fun ρ β u w F hs he hH => by
    obtain ⟨a, h2⟩ := hn'.nn (he x (by simp [Op.operands]) _ hX)
    have h3 : ρ y = .pointer none := he y (by simp [Op.operands]) _ hY
    exact ⟨.bool true, by simp [execOp, h2, h3, eqGuard, binOp, Op.equal, run_eqp hu], rfl⟩) hn
end
theorem fPg : FieldT Try.prog 69 0 0 true 2 := FieldT.mk' tyG
theorem fPt : FieldT Try.prog 69 1 2 false 1 := FieldT.mk' tyQs
theorem fPn : FieldT Try.prog 69 2 3 false 1 := FieldT.mk' tyI
theorem stPb : StructT Try.prog 69 [T.c (.slice none 0 0), T.c (.slice none 0 0), T.c (.slice none 0 0), T.c (.int .i64 0)] [(0, 2), (2, 1), (3, 1)] := StructT.mk' (zs := [.slice none 0 0, .slice none 0 0, .slice none 0 0, .int .i64 0])
theorem stFi : StructT Try.prog 119 [T.c (.pointer none), T.c (.int .u32 0), T.c (.int .i32 0), T.c (.int .u32 0), T.c (.slice none 0 0), T.c (.slice none 0 0), T.c (.slice none 0 0), T.c (.int .i64 0), T.c (.int .i64 0)] [(0, 1), (1, 3), (4, 1), (5, 1), (6, 1), (7, 1), (8, 1)] := StructT.mk' (zs := [.pointer none, .int .u32 0, .int .i32 0, .int .u32 0, .slice none 0 0, .slice none 0 0, .slice none 0 0, .int .i64 0, .int .i64 0])
theorem uPF : Try.prog.underlying 61 = some (.pointer 119) := by kernel_rfl
end Go.Proofs.Ytffnfbhhjjbjbaa.V
/- The nearest point's coefficients as plain sums: what stands along each star, and the way back. -/
set_option linter.unusedVariables false
set_option maxRecDepth 100000
namespace Go.Proofs.Ytffnfbhhjjbjbaa.V
open Go.RowKit Mt Nml
def muq (D : List Int) (L : List (List Int)) (i j : Nat) : Rat := (((L.getD i []).getD j 0 : Int) : Rat) / ((D.getD (j + 1) 0 : Int) : Rat)
def stq (D : List Int) (i : Nat) : Rat := ((D.getD (i + 1) 0 : Int) : Rat) / ((D.getD i 0 : Int) : Rat)
/-- What is left of a number of the point, after i rows. -/
def lq (b : List (List Int)) (c : List Rat) (d : Rat) (k : Nat) : Nat → Rat
  | 0 => d
  | i + 1 => lq b c d k i - c.getD i 0 * (((b.getD i []).getD k 0 : Int) : Rat)
def hq (b : List (List Int)) (c : List Rat) (ts : List (Int × Int)) (n : Nat) : Nat → Rat
  | 0 => 0
  | k + 1 => hq b c ts n k + lq b c (((ts.getD k (0, 0)).1 : Rat) / ((ts.getD k (0, 0)).2 : Rat)) k n * lq b c (((ts.getD k (0, 0)).1 : Rat) / ((ts.getD k (0, 0)).2 : Rat)) k n
end Go.Proofs.Ytffnfbhhjjbjbaa.V
/- Sizes by a common denominator. -/
set_option linter.unusedVariables false
set_option maxRecDepth 100000
namespace Go.Proofs.Ytffnfbhhjjbjbaa.V
open Go.RowKit Mt Nml
/-- Times d it is a whole number of at most A limbs. -/
def QC (q : Rat) (d : Int) (A : Nat) : Prop := ∃ n : Int, q * (d : Rat) = (n : Rat) ∧ zl n ≤ A
theorem QC.mono {q : Rat} {d : Int} {A B : Nat} (h : QC q d A) (hA : A ≤ B) : QC q d B := by
  obtain ⟨n, h1, h2⟩ := h
  exact ⟨n, h1, Nat.le_trans h2 hA⟩
theorem QC.add {q r : Rat} {d : Int} {A B : Nat} (h : QC q d A) (k : QC r d B) : QC (q + r) d (max A B + 1) := by
  obtain ⟨n, h1, h2⟩ := h
  obtain ⟨m, k1, k2⟩ := k
  exact ⟨n + m, by rw [Rat.add_mul, h1, k1, Rat.intCast_add], zl_add_max (Nat.le_trans h2 (Nat.le_max_left _ _)) (Nat.le_trans k2 (Nat.le_max_right _ _))⟩
theorem QC.neg {q : Rat} {d : Int} {A : Nat} (h : QC q d A) : QC (-q) d A := by
  obtain ⟨n, h1, h2⟩ := h
  exact ⟨-n, by rw [Rat.neg_mul, h1, Rat.intCast_neg], by unfold zl at h2 ⊢; rw [Int.natAbs_neg]; exact h2⟩
theorem QC.sub {q r : Rat} {d : Int} {A B : Nat} (h : QC q d A) (k : QC r d B) : QC (q - r) d (max A B + 1) := by
  rw [Rat.sub_eq_add_neg]
  exact h.add k.neg
theorem QC.mul {q r : Rat} {d e : Int} {A B : Nat} (h : QC q d A) (k : QC r e B) : QC (q * r) (d * e) (A + B) := by
  obtain ⟨n, h1, h2⟩ := h
  obtain ⟨m, k1, k2⟩ := k
  refine ⟨n * m, ?_, zl_mul h2 k2⟩
  rw [Rat.intCast_mul, Rat.intCast_mul, ← h1, ← k1]
  generalize (d : Rat) = x
  generalize (e : Rat) = y
  grind
theorem QC.up {q : Rat} {d : Int} {A : Nat} (h : QC q d A) (e : Int) : QC q (d * e) (A + zl e) := by
  obtain ⟨n, h1, h2⟩ := h
  refine ⟨n * e, ?_, zl_mul h2 (Nat.le_refl _)⟩
  rw [Rat.intCast_mul, Rat.intCast_mul, ← h1]
  generalize (d : Rat) = x
  generalize (e : Rat) = y
  grind
theorem QC.frac {a b : Int} (hb : b ≠ 0) : QC ((a : Rat) / (b : Rat)) b (zl a) := by
  have hne := rat_ne hb
  refine ⟨a, ?_, Nat.le_refl _⟩
  generalize (b : Rat) = y at hne
  grind
theorem QC.int (a : Int) : QC (a : Rat) 1 (zl a) := ⟨a, by rw [show ((1 : Int) : Rat) = 1 from rfl, Rat.mul_one], Nat.le_refl _⟩
end Go.Proofs.Ytffnfbhhjjbjbaa.V
/- The parts along the stars have a common denominator that grows by steps. -/
set_option linter.unusedVariables false
set_option maxRecDepth 100000
namespace Go.Proofs.Ytffnfbhhjjbjbaa.V
open Go.RowKit Mt Nml
end Go.Proofs.Ytffnfbhhjjbjbaa.V
/- The coefficients have a common denominator that grows by steps. -/
set_option linter.unusedVariables false
set_option maxRecDepth 100000
namespace Go.Proofs.Ytffnfbhhjjbjbaa.V
open Go.RowKit Mt Nml
end Go.Proofs.Ytffnfbhhjjbjbaa.V
/- The premises of the sizes: what divides the common denominator. -/
set_option linter.unusedVariables false
set_option maxRecDepth 100000
namespace Go.Proofs.Ytffnfbhhjjbjbaa.V
open Go.RowKit Mt Nml
end Go.Proofs.Ytffnfbhhjjbjbaa.V
/- What is said of rows, but for dependence. -/
set_option linter.unusedVariables false
set_option linter.unusedSimpArgs false
set_option maxRecDepth 100000
namespace Go.Proofs.Ytffnfbhhjjbjbaa.V
open Go.RowKit Mt Nml
/-- A truth value, whichever. -/
def T.tb : T := T.ex 1 false (fun _ : Bool => True) (fun s => T.c (.bool s)) (fun _ => ⟨rfl, rfl, rfl⟩)
theorem tb_of (s : Bool) : (T.c (.bool s)).le T.tb := fun β u v h => ⟨s, trivial, h⟩
theorem iv_abs {s : Bool} {xs : List Int} {z : Int} (h : Lim xs) (hz : z = iv s (val xs)) : val xs = ((z.natAbs : Nat) : Int) := by
  have := val_nonneg h
  subst hz
  unfold iv
  split <;> omega
theorem zi_parts {z : Int} {k : Nat} : (T.Zi z k).le (T.st [T.tb, T.L z.natAbs k]) := fun β u v ⟨i, ⟨h1, h2, h3⟩, cs, e, hc⟩ => ⟨cs, e, cells_le (l := [T.c (.bool i.1), T.l cU i.2]) hc ⟨tb_of i.1, l_L h1 (iv_abs h1 h2) h3, trivial⟩ rfl⟩
instance (z : Int) (k : Nat) : Sp (T.Zi z k) [T.tb, T.L z.natAbs k] := ⟨zi_parts⟩
instance (z : Int) (k : Nat) : Sp ((cZi k).X z) [T.tb, T.L z.natAbs k] := ⟨zi_parts⟩
/-- Rows that are too large: q, are the bits asked? -/
def BigB (b : List (List Int)) (q : Bool) : Prop := 12 < b.length ∨ (q = true ∧ 256 < matB b b.length) ∨ ∃ i, i < b.length ∧ 12 < (b.getD i []).length
/-- Rows of unlike lengths. -/
def BadB (b : List (List Int)) : Prop := ∃ i, i < b.length ∧ (b.getD i []).length ≠ (b.getD 0 []).length
/-- What is said of rows, but for dependence. -/
structure ShR (b : List (List Int)) (q : Bool) (r : Int) : Prop where
  big : BigB b q → r = 40
  nil : ¬ BigB b q → b.length = 0 → r = 41
  bad : ¬ BigB b q → b.length ≠ 0 → BadB b → r = 8
  ok : ¬ BigB b q → b.length ≠ 0 → ¬ BadB b → r = 0
theorem ShR.ex (b : List (List Int)) (q : Bool) : ∃ r, ShR b q r := by
  by_cases h1 : BigB b q
  · exact ⟨40, fun _ => rfl, fun h => absurd h1 h, fun h => absurd h1 h, fun h => absurd h1 h⟩
  · by_cases h2 : b.length = 0
    · exact ⟨41, fun h => absurd h h1, fun _ _ => rfl, fun _ h => absurd h2 h, fun _ h => absurd h2 h⟩
    · by_cases h3 : BadB b
      · exact ⟨8, fun h => absurd h h1, fun _ h => absurd h h2, fun _ _ _ => rfl, fun _ _ h => absurd h3 h⟩
      · exact ⟨0, fun h => absurd h h1, fun _ h => absurd h h2, fun _ _ h => absurd h h3, fun _ _ _ => rfl⟩
theorem mxB_ge {l : List Int} {a : Nat} : ∀ {n : Nat}, a ≤ mxB l a n
  | 0 => Nat.le_refl _
  | n + 1 => Nat.le_trans mxB_ge (Nat.le_max_left _ _)
theorem mxB_at {l : List Int} {a : Nat} : ∀ {n k : Nat}, k < n → nbits (l.getD k 0).natAbs ≤ mxB l a n
  | n + 1, k, h => by
    rcases Nat.lt_or_eq_of_le (Nat.le_of_lt_succ h) with h1 | h1
    · exact Nat.le_trans (mxB_at h1) (Nat.le_max_left _ _)
    · subst h1; exact Nat.le_max_right _ _
theorem matB_at {b : List (List Int)} : ∀ {n i k : Nat}, i < n → k < (b.getD i []).length → nbits ((b.getD i []).getD k 0).natAbs ≤ matB b n
  | n + 1, i, k, hi, hk => by
    rcases Nat.lt_or_eq_of_le (Nat.le_of_lt_succ hi) with h1 | h1
    · exact Nat.le_trans (matB_at h1 hk) mxB_ge
    · subst h1; exact mxB_at hk
/-- Is it so far? -/
def BigU (b : List (List Int)) (q : Bool) (i : Nat) : Prop := 12 < b.length ∨ (q = true ∧ 256 < matB b b.length) ∨ ∃ j, j < i ∧ 12 < (b.getD j []).length
theorem bigU_zero {b : List (List Int)} {q p : Bool} (h : p = true ↔ (12 < b.length ∨ (q = true ∧ 256 < matB b b.length))) : p = true ↔ BigU b q 0 := by
  rw [h]
  refine ⟨fun h => ?_, fun h => ?_⟩
  · rcases h with h | h
    · exact .inl h
    · exact .inr (.inl h)
  · rcases h with h | h | ⟨j, hj, _⟩
    · exact .inl h
    · exact .inr h
    · omega
theorem bigU_t {b : List (List Int)} {q : Bool} {i : Nat} (h : BigU b q i) : (true = true) ↔ BigU b q (i + 1) := ⟨fun _ => by
  rcases h with h | h | ⟨j, hj, h⟩
  · exact .inl h
  · exact .inr (.inl h)
  · exact .inr (.inr ⟨j, by omega, h⟩), fun _ => rfl⟩
theorem bigU_n {b : List (List Int)} {q : Bool} {i : Nat} (h : 12 < (b.getD i []).length) : (true = true) ↔ BigU b q (i + 1) := ⟨fun _ => .inr (.inr ⟨i, by omega, h⟩), fun _ => rfl⟩
theorem bigU_f {b : List (List Int)} {q : Bool} {i : Nat} (h : ¬ BigU b q i) (h2 : ¬ 12 < (b.getD i []).length) : (false = true) ↔ BigU b q (i + 1) := ⟨fun h => (by cases h), fun k0 => absurd k0 (by
  rintro (k | k | ⟨j, hj, k⟩)
  · exact h (.inl k)
  · exact h (.inr (.inl k))
  · rcases Nat.lt_or_eq_of_le (Nat.le_of_lt_succ hj) with h1 | h1
    · exact h (.inr (.inr ⟨j, h1, k⟩))
    · rw [h1] at k; exact h2 k)⟩
theorem bad_of {b : List (List Int)} (h : BadB b) : ∃ i, i < b.length ∧ (b.getD i []).length ≠ (b.getD 0 []).length ∧ ∀ j, j < i → (b.getD j []).length = (b.getD 0 []).length := by
  obtain ⟨i, ⟨h1, h2⟩, h3⟩ := least (fun i => i < b.length ∧ (b.getD i []).length ≠ (b.getD 0 []).length) h
  refine ⟨i, h1, h2, fun j hj => ?_⟩
  by_cases e : (b.getD j []).length = (b.getD 0 []).length
  · exact e
  · have := h3 j ⟨by omega, e⟩; omega

theorem mat_Shape_bad {b : List (List Int)} {k : Nat} (h0 : 0 < b.length) (hb : b.length ≤ 12) (h : BadB b) (hr : ∀ i, i < b.length → (b.getD i []).length ≤ 12) : Fn Try.prog 113 [T.l (cL (cZi k)) b] [] [] [] (T.tup [T.c (.int .i64 0), T.c (.int .i64 0), T.c (.int .i64 8)]) := by
  refine fn_of Try.func113 rfl (by show 1 ≤ 30; decide) fun cx hcx => ?_
  refine tri_sub (sl 0 rfl sn) en ?_
  obtain ⟨w, hw1, hw2, hw3⟩ := bad_of h
  have hm0 : (b.getD 0 (cL (cZi k)).dflt).length ≤ 12 := hr 0 h0
  refine tri_seq ?_
  refine tri_reg mixed hcx ?_ _ _
  refine asg rfl ?_
  refine asg rfl ?_
  refine asg rfl ?_
  refine ⟨by kernel_rfl, ?_⟩
  refine nx (sl 0 rfl sn) en ?_
  refine tri_seq ?_
  refine tri_seq ?_
  refine tri_reg mixed hcx ?_ _ _
  refine mv rfl ?_
  refine ln slZss rfl ?_
  refine ceq rfl rfl (decide_eq_false (by omega)) ?_
  refine ⟨by kernel_rfl, ?_⟩
  refine nx (sl 0 rfl (sl 9 rfl sn)) en ?_
  refine tri_false rfl rfl ?_
  refine tri_skip ?_
  refine nx (sl 0 rfl sn) en ?_
  refine tri_seq ?_
  refine tri_seq ?_
  refine tri_reg mixed hcx ?_ _ _
  refine mv rfl ?_
  refine ln slZss rfl ?_
  refine mv rfl ?_
  refine ⟨by kernel_rfl, ?_⟩
  refine nx (sl 0 rfl (sl 10 rfl (sl 11 rfl (sl 12 rfl sn)))) en ?_
  refine tri_block ?_
  refine tri_loop (ι := Nat) (fun i => [(0, T.l (cL (cZi k)) b), (10, T.l (cL (cZi k)) b), (11, T.c (.int .i64 (b.length : Int))), (12, T.c (.int .i64 (i : Int)))]) (fun i => []) (fun i => b.length - i) (fun i => (i ≤ w)) 0 (Nat.zero_le _) (sl 0 rfl (sl 10 rfl (sl 11 rfl (sl 12 rfl sn)))) en ?_
  rintro i hi
  refine tri_sub (sl 0 rfl (sl 10 rfl (sl 11 rfl (sl 12 rfl sn)))) en ?_
  refine tri_seq ?_
  refine tri_reg mixed hcx ?_ _ _
  refine clt rfl rfl rfl ?_
  refine ⟨by kernel_rfl, ?_⟩
  refine nx (sl 0 rfl (sl 10 rfl (sl 11 rfl (sl 12 rfl (sl 13 rfl sn))))) en ?_
  refine tri_seq ?_
  refine tri_if rfl (fun hc => ?_) (fun hc => ?_)
  · have hmi : (b.getD i (cL (cZi k)).dflt).length ≤ 12 := hr i (by omega)
    refine tri_skip ?_
    refine nx (sl 0 rfl (sl 10 rfl (sl 11 rfl (sl 12 rfl sn)))) en ?_
    refine tri_seq ?_
    refine tri_block ?_
    refine tri_seq ?_
    refine tri_reg mixed hcx ?_ _ _
    refine ix rfl rfl slZss ⟨rfl, by omega⟩ ?_
    refine lf rfl tyZs ?_
    refine asg rfl ?_
    refine ⟨by kernel_rfl, ?_⟩
    refine nx (sl 0 rfl (sl 6 rfl (sl 10 rfl (sl 11 rfl (sl 12 rfl sn))))) en ?_
    refine tri_seq ?_
    rcases Nat.lt_or_eq_of_le hi with h9 | h9
    · have hme : (b.getD i (cL (cZi k)).dflt).length = (b.getD 0 (cL (cZi k)).dflt).length := hw3 i h9
      refine tri_reg mixed hcx ?_ _ _
      refine mv rfl ?_
      refine ln slZs rfl ?_
      refine mv rfl ?_
      refine ix rfl rfl slZss ⟨(rfl : _ = ((0 : Nat) : Int)), by omega⟩ ?_
      refine lf rfl tyZs ?_
      refine ln slZs rfl ?_
      refine cne rfl rfl (decide_eq_false (by omega)) ?_
      refine ⟨by kernel_rfl, ?_⟩
      refine nx (sl 0 rfl (sl 10 rfl (sl 11 rfl (sl 12 rfl (sl 22 rfl sn))))) en ?_
      refine tri_false rfl rfl ?_
      refine tri_skip ?_
      refine pn_blk ?_
      refine nx (sl 0 rfl (sl 10 rfl (sl 11 rfl (sl 12 rfl sn)))) en ?_
      refine tri_reg mixed hcx ?_ _ _
      refine ad (((i + 1 : Nat) : Int)) rfl rfl rfl (by omega) ?_
      refine mv rfl ?_
      refine ⟨by kernel_rfl, ?_⟩
      exact pn_back (i + 1) (by first | omega | (dsimp only; omega)) (by omega) (sl 0 rfl (sl 10 rfl (sl 11 rfl (sl 12 rfl sn)))) en
    · subst h9
      have hmn : (b.getD i (cL (cZi k)).dflt).length ≠ (b.getD 0 (cL (cZi k)).dflt).length := hw2
      refine tri_reg mixed hcx ?_ _ _
      refine mv rfl ?_
      refine ln slZs rfl ?_
      refine mv rfl ?_
      refine ix rfl rfl slZss ⟨(rfl : _ = ((0 : Nat) : Int)), by omega⟩ ?_
      refine lf rfl tyZs ?_
      refine ln slZs rfl ?_
      refine cne rfl rfl (decide_eq_true (by omega)) ?_
      refine ⟨by kernel_rfl, ?_⟩
      refine nx (sl 0 rfl (sl 10 rfl (sl 11 rfl (sl 12 rfl (sl 22 rfl sn))))) en ?_
      refine tri_true rfl rfl ?_
      refine tri_seq ?_
      refine tri_reg mixed hcx ?_ _ _
      refine asg rfl ?_
      refine asg rfl ?_
      refine asg rfl ?_
      refine ⟨by kernel_rfl, ?_⟩
      refine nx (sl 2 rfl (sl 3 rfl (sl 4 rfl sn))) en ?_
      refine tri_ret ?_
      repeat (first | refine pn_thenr ?_ | refine pn_blkr ?_)
      exact ret3 hcx rfl (rv_tmp rfl) (rv_tmp rfl) (rv_tmp rfl) (.refl _) en
  · refine tri_exit ?_
    repeat (first | refine pn_then ?_ | refine pn_oth (by decide) ?_)
    refine pn_ex ?_
    exfalso
    omega

theorem g_shaped_t {b : List (List Int)} {k : Nat} {r : Int} (hk : k ≤ 1048576) (hbl : b.length ≤ 1048576) (hrr : ∀ i, i < b.length → (b.getD i []).length ≤ 1048576) (hR : ShR b true r) : Fn Try.prog 83 [T.l (cL (cZi k)) b, T.c (.bool true)] [] [] [] (T.c (.int .i64 r)) := by
  refine fn_of Try.func83 rfl (by show 2 ≤ 46; decide) fun cx hcx => ?_
  refine tri_sub (sl 0 rfl (sl 1 rfl sn)) en ?_
  refine tri_seq ?_
  refine tri_reg mixed hcx ?_ _ _
  refine asg rfl ?_
  refine ⟨by kernel_rfl, ?_⟩
  refine nx (sl 0 rfl (sl 1 rfl sn)) en ?_
  refine tri_seq ?_
  rcases Nat.lt_or_ge 12 b.length with h1 | h1; rotate_left; rcases Nat.lt_or_ge 256 (matB b b.length) with h2 | h2; rotate_left; rotate_left
  · refine tri_reg mixed hcx ?_ _ _
    refine mv rfl ?_
    refine ln slZss rfl ?_
    refine cgt rfl rfl (decide_eq_true (by omega)) ?_
    refine mv rfl ?_
    refine j_off rfl rfl rfl rfl ?_
    refine j_off rfl rfl rfl rfl ?_
    refine j_ofu rfl rfl rfl ?_
    refine j_ofu rfl rfl rfl ?_
    refine j_ofu rfl rfl rfl ?_
    refine j_off rfl rfl rfl rfl ?_
    refine pk rfl rfl ?_
    refine asg rfl ?_
    refine ⟨by kernel_rfl, ?_⟩
    refine nx (sl 0 rfl (sl 5 rfl sn)) en ?_
    refine tri_seq ?_
    refine tri_seq ?_
    refine tri_reg mixed hcx ?_ _ _
    refine mv rfl ?_
    refine ln slZss rfl ?_
    refine mv rfl ?_
    refine ⟨by kernel_rfl, ?_⟩
    refine nx (sl 0 rfl (sl 5 rfl (sl 22 rfl (sl 23 rfl (sl 24 rfl sn))))) en ?_
    refine tri_block ?_
    refine tri_loop (ι := Nat × Bool) (fun (i, p) => [(0, T.l (cL (cZi k)) b), (5, T.c (.bool p)), (22, T.l (cL (cZi k)) b), (23, T.c (.int .i64 (b.length : Int))), (24, T.c (.int .i64 (i : Int)))]) (fun (i, p) => []) (fun (i, p) => b.length - i) (fun (i, p) => (i ≤ b.length) ∧ (p = true ↔ BigU b true i)) (0, true) ⟨Nat.zero_le _, bigU_zero ⟨fun _ => .inl h1, fun _ => rfl⟩⟩ (sl 0 rfl (sl 5 rfl (sl 22 rfl (sl 23 rfl (sl 24 rfl sn))))) en ?_
    rintro ⟨i, p⟩ ⟨hi, hp⟩
    refine tri_sub (sl 0 rfl (sl 5 rfl (sl 22 rfl (sl 23 rfl (sl 24 rfl sn))))) en ?_
    refine tri_seq ?_
    refine tri_reg mixed hcx ?_ _ _
    refine clt rfl rfl rfl ?_
    refine ⟨by kernel_rfl, ?_⟩
    refine nx (sl 0 rfl (sl 5 rfl (sl 22 rfl (sl 23 rfl (sl 24 rfl (sl 25 rfl sn)))))) en ?_
    refine tri_seq ?_
    refine tri_if rfl (fun hc => ?_) (fun hc => ?_)
    · have hmi : (b.getD i (cL (cZi k)).dflt).length ≤ 1048576 := hrr i (by omega)
      refine tri_skip ?_
      refine nx (sl 0 rfl (sl 5 rfl (sl 22 rfl (sl 23 rfl (sl 24 rfl sn))))) en ?_
      refine tri_seq ?_
      refine tri_block ?_
      refine tri_seq ?_
      refine tri_reg mixed hcx ?_ _ _
      refine ix rfl rfl slZss ⟨rfl, by omega⟩ ?_
      refine lf rfl tyZs ?_
      refine asg rfl ?_
      refine ⟨by kernel_rfl, ?_⟩
      refine nx (sl 0 rfl (sl 5 rfl (sl 7 rfl (sl 22 rfl (sl 23 rfl (sl 24 rfl sn)))))) en ?_
      rcases Bool.eq_false_or_eq_true p with h5 | h5; rotate_left; rcases Nat.lt_or_ge 12 (b.getD i (cL (cZi k)).dflt).length with h6 | h6; rotate_left; rotate_left
      · subst h5
        refine tri_reg mixed hcx ?_ _ _
        refine mv rfl ?_
        refine mv rfl ?_
        refine j_off rfl rfl rfl rfl ?_
        refine j_off rfl rfl rfl rfl ?_
        refine j_off rfl rfl rfl rfl ?_
        refine pk rfl rfl ?_
        refine asg rfl ?_
        refine ⟨by kernel_rfl, ?_⟩
        refine pn_blk ?_
        refine nx (sl 0 rfl (sl 5 rfl (sl 22 rfl (sl 23 rfl (sl 24 rfl sn))))) en ?_
        refine tri_reg mixed hcx ?_ _ _
        refine ad (((i + 1 : Nat) : Int)) rfl rfl rfl (by omega) ?_
        refine mv rfl ?_
        refine ⟨by kernel_rfl, ?_⟩
        exact pn_back (i + 1, true) (by dsimp only; omega) ⟨by omega, bigU_t (hp.1 rfl)⟩ (sl 0 rfl (sl 5 rfl (sl 22 rfl (sl 23 rfl (sl 24 rfl sn))))) en
      · subst h5
        refine tri_reg mixed hcx ?_ _ _
        refine mv rfl ?_
        refine mv rfl ?_
        refine mv rfl ?_ (hg := gd1)
        refine ln slZs rfl ?_ (hg := gd1)
        refine cgt rfl rfl (decide_eq_true (by omega)) ?_ (hg := gd1)
        refine pk rfl rfl ?_
        refine asg rfl ?_
        refine ⟨by kernel_rfl, ?_⟩
        refine pn_blk ?_
        refine nx (sl 0 rfl (sl 5 rfl (sl 22 rfl (sl 23 rfl (sl 24 rfl sn))))) en ?_
        refine tri_reg mixed hcx ?_ _ _
        refine ad (((i + 1 : Nat) : Int)) rfl rfl rfl (by omega) ?_
        refine mv rfl ?_
        refine ⟨by kernel_rfl, ?_⟩
        exact pn_back (i + 1, true) (by dsimp only; omega) ⟨by omega, bigU_n h6⟩ (sl 0 rfl (sl 5 rfl (sl 22 rfl (sl 23 rfl (sl 24 rfl sn))))) en
      · subst h5
        refine tri_reg mixed hcx ?_ _ _
        refine mv rfl ?_
        refine mv rfl ?_
        refine mv rfl ?_ (hg := gd1)
        refine ln slZs rfl ?_ (hg := gd1)
        refine cgt rfl rfl (decide_eq_false (by omega)) ?_ (hg := gd1)
        refine pk rfl rfl ?_
        refine asg rfl ?_
        refine ⟨by kernel_rfl, ?_⟩
        refine pn_blk ?_
        refine nx (sl 0 rfl (sl 5 rfl (sl 22 rfl (sl 23 rfl (sl 24 rfl sn))))) en ?_
        refine tri_reg mixed hcx ?_ _ _
        refine ad (((i + 1 : Nat) : Int)) rfl rfl rfl (by omega) ?_
        refine mv rfl ?_
        refine ⟨by kernel_rfl, ?_⟩
        exact pn_back (i + 1, false) (by dsimp only; omega) ⟨by omega, bigU_f (fun h => by have := hp.2 h; cases this) (Nat.not_lt.2 h6)⟩ (sl 0 rfl (sl 5 rfl (sl 22 rfl (sl 23 rfl (sl 24 rfl sn))))) en
    · refine tri_exit ?_
      repeat (first | refine pn_then ?_ | refine pn_oth (by decide) ?_)
      refine pn_ex ?_
      have hin : i = b.length := by omega
      rw [hin] at hp
      refine nx (sl 0 rfl (sl 5 rfl sn)) en ?_
      refine tri_seq ?_
      refine tri_seq ?_
      refine tri_reg mixed hcx ?_ _ _
      refine mv rfl ?_
      refine ⟨by kernel_rfl, ?_⟩
      refine nx (sl 0 rfl (sl 35 rfl sn)) en ?_
      refine tri_cond rfl (fun h7 => ?_) (fun h7 => ?_)
      · have h8 : BigB b true := hp.1 h7
        refine tri_seq ?_
        refine tri_reg mixed hcx ?_ _ _
        refine asg rfl ?_
        refine ⟨by kernel_rfl, ?_⟩
        refine nx (sl 4 rfl sn) en ?_
        refine tri_ret ?_
        repeat (first | refine pn_thenr ?_ | refine pn_blkr ?_)
        exact ret1 hcx rfl (rv_tmp rfl) (ci (hR.big h8).symm) en
      · have h8 : ¬ BigB b true := fun h => by have := hp.2 h; rw [h7] at this; cases this
        have hl12 : b.length ≤ 12 := Nat.not_lt.1 fun h => h8 (.inl h)
        have hr12 : ∀ i, i < b.length → (b.getD i []).length ≤ 12 := fun i hi => Nat.not_lt.1 fun h => h8 (.inr (.inr ⟨i, hi, h⟩))
        refine tri_skip ?_
        refine nx (sl 0 rfl sn) en ?_
        refine tri_seq ?_
        refine tri_seq ?_
        refine tri_reg mixed hcx ?_ _ _
        refine mv rfl ?_
        refine ln slZss rfl ?_
        refine ceq rfl rfl rfl ?_
        refine ⟨by kernel_rfl, ?_⟩
        refine nx (sl 0 rfl (sl 38 rfl sn)) en ?_
        refine tri_if rfl (fun h9 => ?_) (fun h9 => ?_)
        · refine tri_seq ?_
          refine tri_reg mixed hcx ?_ _ _
          refine asg rfl ?_
          refine ⟨by kernel_rfl, ?_⟩
          refine nx (sl 4 rfl sn) en ?_
          refine tri_ret ?_
          repeat (first | refine pn_thenr ?_ | refine pn_blkr ?_)
          exact ret1 hcx rfl (rv_tmp rfl) (ci (hR.nil h8 (by omega)).symm) en
        · have h0 : 0 < b.length := by omega
          refine tri_skip ?_
          refine nx (sl 0 rfl sn) en ?_
          refine tri_seq ?_
          by_cases h10 : BadB b
          · refine tri_reg mixed hcx ?_ _ _
            refine mv rfl ?_
            refine ca rfl (h := mat_Shape_bad h0 hl12 h10 hr12) (hn := ?_)
            refine mv rfl ?_
            refine ex rfl rfl ?_
            refine ex rfl rfl ?_
            refine ex rfl rfl ?_
            refine asg rfl ?_
            refine asg rfl ?_
            refine asg rfl ?_
            refine ⟨by kernel_rfl, ?_⟩
            refine nx (sl 10 rfl sn) en ?_
            refine tri_seq ?_
            refine tri_reg mixed hcx ?_ _ _
            refine mv rfl ?_
            refine asg rfl ?_
            refine ⟨by kernel_rfl, ?_⟩
            refine nx (sl 4 rfl sn) en ?_
            refine tri_ret ?_
            repeat (first | refine pn_thenr ?_ | refine pn_blkr ?_)
            exact ret1 hcx rfl (rv_tmp rfl) (ci (hR.bad h8 (by omega) h10).symm) en
          · have hm : ∀ i, i < b.length → (b.getD i []).length = (b.getD 0 []).length := fun i hi => Decidable.not_not.1 fun e => h10 ⟨i, hi, e⟩
            refine tri_reg mixed hcx ?_ _ _
            refine mv rfl ?_
            refine ca rfl (h := mat_Shape h0 hl12 hm) (hn := ?_)
            refine mv rfl ?_
            refine ex rfl rfl ?_
            refine ex rfl rfl ?_
            refine ex rfl rfl ?_
            refine asg rfl ?_
            refine asg rfl ?_
            refine asg rfl ?_
            refine ⟨by kernel_rfl, ?_⟩
            refine nx (sl 10 rfl sn) en ?_
            refine tri_seq ?_
            refine tri_reg mixed hcx ?_ _ _
            refine mv rfl ?_
            refine asg rfl ?_
            refine ⟨by kernel_rfl, ?_⟩
            refine nx (sl 4 rfl sn) en ?_
            refine tri_ret ?_
            repeat (first | refine pn_thenr ?_ | refine pn_blkr ?_)
            exact ret1 hcx rfl (rv_tmp rfl) (ci (hR.ok h8 (by omega) h10).symm) en
  · refine tri_reg mixed hcx ?_ _ _
    refine mv rfl ?_
    refine ln slZss rfl ?_
    refine cgt rfl rfl (decide_eq_false (by omega)) ?_
    refine mv rfl ?_
    refine mv rfl ?_ (hg := gd1)
    refine mv rfl ?_ (hg := gd1)
    refine mv rfl ?_ (hg := gd1)
    refine ca rfl (h := mat_Bits (by omega) (by omega) hrr) (hn := ?_) (hg := gd1)
    refine cgt rfl rfl (decide_eq_true (by omega)) ?_ (hg := gd1)
    refine pk rfl rfl ?_ (hg := gd1)
    refine pk rfl rfl ?_
    refine asg rfl ?_
    refine ⟨by kernel_rfl, ?_⟩
    refine nx (sl 0 rfl (sl 5 rfl sn)) en ?_
    refine tri_seq ?_
    refine tri_seq ?_
    refine tri_reg mixed hcx ?_ _ _
    refine mv rfl ?_
    refine ln slZss rfl ?_
    refine mv rfl ?_
    refine ⟨by kernel_rfl, ?_⟩
    refine nx (sl 0 rfl (sl 5 rfl (sl 22 rfl (sl 23 rfl (sl 24 rfl sn))))) en ?_
    refine tri_block ?_
    refine tri_loop (ι := Nat × Bool) (fun (i, p) => [(0, T.l (cL (cZi k)) b), (5, T.c (.bool p)), (22, T.l (cL (cZi k)) b), (23, T.c (.int .i64 (b.length : Int))), (24, T.c (.int .i64 (i : Int)))]) (fun (i, p) => []) (fun (i, p) => b.length - i) (fun (i, p) => (i ≤ b.length) ∧ (p = true ↔ BigU b true i)) (0, true) ⟨Nat.zero_le _, bigU_zero ⟨fun _ => .inr ⟨rfl, h2⟩, fun _ => rfl⟩⟩ (sl 0 rfl (sl 5 rfl (sl 22 rfl (sl 23 rfl (sl 24 rfl sn))))) en ?_
    rintro ⟨i, p⟩ ⟨hi, hp⟩
    refine tri_sub (sl 0 rfl (sl 5 rfl (sl 22 rfl (sl 23 rfl (sl 24 rfl sn))))) en ?_
    refine tri_seq ?_
    refine tri_reg mixed hcx ?_ _ _
    refine clt rfl rfl rfl ?_
    refine ⟨by kernel_rfl, ?_⟩
    refine nx (sl 0 rfl (sl 5 rfl (sl 22 rfl (sl 23 rfl (sl 24 rfl (sl 25 rfl sn)))))) en ?_
    refine tri_seq ?_
    refine tri_if rfl (fun hc => ?_) (fun hc => ?_)
    · have hmi : (b.getD i (cL (cZi k)).dflt).length ≤ 1048576 := hrr i (by omega)
      refine tri_skip ?_
      refine nx (sl 0 rfl (sl 5 rfl (sl 22 rfl (sl 23 rfl (sl 24 rfl sn))))) en ?_
      refine tri_seq ?_
      refine tri_block ?_
      refine tri_seq ?_
      refine tri_reg mixed hcx ?_ _ _
      refine ix rfl rfl slZss ⟨rfl, by omega⟩ ?_
      refine lf rfl tyZs ?_
      refine asg rfl ?_
      refine ⟨by kernel_rfl, ?_⟩
      refine nx (sl 0 rfl (sl 5 rfl (sl 7 rfl (sl 22 rfl (sl 23 rfl (sl 24 rfl sn)))))) en ?_
      rcases Bool.eq_false_or_eq_true p with h5 | h5; rotate_left; rcases Nat.lt_or_ge 12 (b.getD i (cL (cZi k)).dflt).length with h6 | h6; rotate_left; rotate_left
      · subst h5
        refine tri_reg mixed hcx ?_ _ _
        refine mv rfl ?_
        refine mv rfl ?_
        refine j_off rfl rfl rfl rfl ?_
        refine j_off rfl rfl rfl rfl ?_
        refine j_off rfl rfl rfl rfl ?_
        refine pk rfl rfl ?_
        refine asg rfl ?_
        refine ⟨by kernel_rfl, ?_⟩
        refine pn_blk ?_
        refine nx (sl 0 rfl (sl 5 rfl (sl 22 rfl (sl 23 rfl (sl 24 rfl sn))))) en ?_
        refine tri_reg mixed hcx ?_ _ _
        refine ad (((i + 1 : Nat) : Int)) rfl rfl rfl (by omega) ?_
        refine mv rfl ?_
        refine ⟨by kernel_rfl, ?_⟩
        exact pn_back (i + 1, true) (by dsimp only; omega) ⟨by omega, bigU_t (hp.1 rfl)⟩ (sl 0 rfl (sl 5 rfl (sl 22 rfl (sl 23 rfl (sl 24 rfl sn))))) en
      · subst h5
        refine tri_reg mixed hcx ?_ _ _
        refine mv rfl ?_
        refine mv rfl ?_
        refine mv rfl ?_ (hg := gd1)
        refine ln slZs rfl ?_ (hg := gd1)
        refine cgt rfl rfl (decide_eq_true (by omega)) ?_ (hg := gd1)
        refine pk rfl rfl ?_
        refine asg rfl ?_
        refine ⟨by kernel_rfl, ?_⟩
        refine pn_blk ?_
        refine nx (sl 0 rfl (sl 5 rfl (sl 22 rfl (sl 23 rfl (sl 24 rfl sn))))) en ?_
        refine tri_reg mixed hcx ?_ _ _
        refine ad (((i + 1 : Nat) : Int)) rfl rfl rfl (by omega) ?_
        refine mv rfl ?_
        refine ⟨by kernel_rfl, ?_⟩
        exact pn_back (i + 1, true) (by dsimp only; omega) ⟨by omega, bigU_n h6⟩ (sl 0 rfl (sl 5 rfl (sl 22 rfl (sl 23 rfl (sl 24 rfl sn))))) en
      · subst h5
        refine tri_reg mixed hcx ?_ _ _
        refine mv rfl ?_
        refine mv rfl ?_
        refine mv rfl ?_ (hg := gd1)
        refine ln slZs rfl ?_ (hg := gd1)
        refine cgt rfl rfl (decide_eq_false (by omega)) ?_ (hg := gd1)
        refine pk rfl rfl ?_
        refine asg rfl ?_
        refine ⟨by kernel_rfl, ?_⟩
        refine pn_blk ?_
        refine nx (sl 0 rfl (sl 5 rfl (sl 22 rfl (sl 23 rfl (sl 24 rfl sn))))) en ?_
        refine tri_reg mixed hcx ?_ _ _
        refine ad (((i + 1 : Nat) : Int)) rfl rfl rfl (by omega) ?_
        refine mv rfl ?_
        refine ⟨by kernel_rfl, ?_⟩
        exact pn_back (i + 1, false) (by dsimp only; omega) ⟨by omega, bigU_f (fun h => by have := hp.2 h; cases this) (Nat.not_lt.2 h6)⟩ (sl 0 rfl (sl 5 rfl (sl 22 rfl (sl 23 rfl (sl 24 rfl sn))))) en
    · refine tri_exit ?_
      repeat (first | refine pn_then ?_ | refine pn_oth (by decide) ?_)
      refine pn_ex ?_
      have hin : i = b.length := by omega
      rw [hin] at hp
      refine nx (sl 0 rfl (sl 5 rfl sn)) en ?_
      refine tri_seq ?_
      refine tri_seq ?_
      refine tri_reg mixed hcx ?_ _ _
      refine mv rfl ?_
      refine ⟨by kernel_rfl, ?_⟩
      refine nx (sl 0 rfl (sl 35 rfl sn)) en ?_
      refine tri_cond rfl (fun h7 => ?_) (fun h7 => ?_)
      · have h8 : BigB b true := hp.1 h7
        refine tri_seq ?_
        refine tri_reg mixed hcx ?_ _ _
        refine asg rfl ?_
        refine ⟨by kernel_rfl, ?_⟩
        refine nx (sl 4 rfl sn) en ?_
        refine tri_ret ?_
        repeat (first | refine pn_thenr ?_ | refine pn_blkr ?_)
        exact ret1 hcx rfl (rv_tmp rfl) (ci (hR.big h8).symm) en
      · have h8 : ¬ BigB b true := fun h => by have := hp.2 h; rw [h7] at this; cases this
        have hl12 : b.length ≤ 12 := Nat.not_lt.1 fun h => h8 (.inl h)
        have hr12 : ∀ i, i < b.length → (b.getD i []).length ≤ 12 := fun i hi => Nat.not_lt.1 fun h => h8 (.inr (.inr ⟨i, hi, h⟩))
        refine tri_skip ?_
        refine nx (sl 0 rfl sn) en ?_
        refine tri_seq ?_
        refine tri_seq ?_
        refine tri_reg mixed hcx ?_ _ _
        refine mv rfl ?_
        refine ln slZss rfl ?_
        refine ceq rfl rfl rfl ?_
        refine ⟨by kernel_rfl, ?_⟩
        refine nx (sl 0 rfl (sl 38 rfl sn)) en ?_
        refine tri_if rfl (fun h9 => ?_) (fun h9 => ?_)
        · refine tri_seq ?_
          refine tri_reg mixed hcx ?_ _ _
          refine asg rfl ?_
          refine ⟨by kernel_rfl, ?_⟩
          refine nx (sl 4 rfl sn) en ?_
          refine tri_ret ?_
          repeat (first | refine pn_thenr ?_ | refine pn_blkr ?_)
          exact ret1 hcx rfl (rv_tmp rfl) (ci (hR.nil h8 (by omega)).symm) en
        · have h0 : 0 < b.length := by omega
          refine tri_skip ?_
          refine nx (sl 0 rfl sn) en ?_
          refine tri_seq ?_
          by_cases h10 : BadB b
          · refine tri_reg mixed hcx ?_ _ _
            refine mv rfl ?_
            refine ca rfl (h := mat_Shape_bad h0 hl12 h10 hr12) (hn := ?_)
            refine mv rfl ?_
            refine ex rfl rfl ?_
            refine ex rfl rfl ?_
            refine ex rfl rfl ?_
            refine asg rfl ?_
            refine asg rfl ?_
            refine asg rfl ?_
            refine ⟨by kernel_rfl, ?_⟩
            refine nx (sl 10 rfl sn) en ?_
            refine tri_seq ?_
            refine tri_reg mixed hcx ?_ _ _
            refine mv rfl ?_
            refine asg rfl ?_
            refine ⟨by kernel_rfl, ?_⟩
            refine nx (sl 4 rfl sn) en ?_
            refine tri_ret ?_
            repeat (first | refine pn_thenr ?_ | refine pn_blkr ?_)
            exact ret1 hcx rfl (rv_tmp rfl) (ci (hR.bad h8 (by omega) h10).symm) en
          · have hm : ∀ i, i < b.length → (b.getD i []).length = (b.getD 0 []).length := fun i hi => Decidable.not_not.1 fun e => h10 ⟨i, hi, e⟩
            refine tri_reg mixed hcx ?_ _ _
            refine mv rfl ?_
            refine ca rfl (h := mat_Shape h0 hl12 hm) (hn := ?_)
            refine mv rfl ?_
            refine ex rfl rfl ?_
            refine ex rfl rfl ?_
            refine ex rfl rfl ?_
            refine asg rfl ?_
            refine asg rfl ?_
            refine asg rfl ?_
            refine ⟨by kernel_rfl, ?_⟩
            refine nx (sl 10 rfl sn) en ?_
            refine tri_seq ?_
            refine tri_reg mixed hcx ?_ _ _
            refine mv rfl ?_
            refine asg rfl ?_
            refine ⟨by kernel_rfl, ?_⟩
            refine nx (sl 4 rfl sn) en ?_
            refine tri_ret ?_
            repeat (first | refine pn_thenr ?_ | refine pn_blkr ?_)
            exact ret1 hcx rfl (rv_tmp rfl) (ci (hR.ok h8 (by omega) h10).symm) en
  · refine tri_reg mixed hcx ?_ _ _
    refine mv rfl ?_
    refine ln slZss rfl ?_
    refine cgt rfl rfl (decide_eq_false (by omega)) ?_
    refine mv rfl ?_
    refine mv rfl ?_ (hg := gd1)
    refine mv rfl ?_ (hg := gd1)
    refine mv rfl ?_ (hg := gd1)
    refine ca rfl (h := mat_Bits (by omega) (by omega) hrr) (hn := ?_) (hg := gd1)
    refine cgt rfl rfl (decide_eq_false (by omega)) ?_ (hg := gd1)
    refine pk rfl rfl ?_ (hg := gd1)
    refine pk rfl rfl ?_
    refine asg rfl ?_
    refine ⟨by kernel_rfl, ?_⟩
    refine nx (sl 0 rfl (sl 5 rfl sn)) en ?_
    refine tri_seq ?_
    refine tri_seq ?_
    refine tri_reg mixed hcx ?_ _ _
    refine mv rfl ?_
    refine ln slZss rfl ?_
    refine mv rfl ?_
    refine ⟨by kernel_rfl, ?_⟩
    refine nx (sl 0 rfl (sl 5 rfl (sl 22 rfl (sl 23 rfl (sl 24 rfl sn))))) en ?_
    refine tri_block ?_
    refine tri_loop (ι := Nat × Bool) (fun (i, p) => [(0, T.l (cL (cZi k)) b), (5, T.c (.bool p)), (22, T.l (cL (cZi k)) b), (23, T.c (.int .i64 (b.length : Int))), (24, T.c (.int .i64 (i : Int)))]) (fun (i, p) => []) (fun (i, p) => b.length - i) (fun (i, p) => (i ≤ b.length) ∧ (p = true ↔ BigU b true i)) (0, false) ⟨Nat.zero_le _, bigU_zero ⟨fun h => (by cases h), fun h => by rcases h with h | h <;> omega⟩⟩ (sl 0 rfl (sl 5 rfl (sl 22 rfl (sl 23 rfl (sl 24 rfl sn))))) en ?_
    rintro ⟨i, p⟩ ⟨hi, hp⟩
    refine tri_sub (sl 0 rfl (sl 5 rfl (sl 22 rfl (sl 23 rfl (sl 24 rfl sn))))) en ?_
    refine tri_seq ?_
    refine tri_reg mixed hcx ?_ _ _
    refine clt rfl rfl rfl ?_
    refine ⟨by kernel_rfl, ?_⟩
    refine nx (sl 0 rfl (sl 5 rfl (sl 22 rfl (sl 23 rfl (sl 24 rfl (sl 25 rfl sn)))))) en ?_
    refine tri_seq ?_
    refine tri_if rfl (fun hc => ?_) (fun hc => ?_)
    · have hmi : (b.getD i (cL (cZi k)).dflt).length ≤ 1048576 := hrr i (by omega)
      refine tri_skip ?_
      refine nx (sl 0 rfl (sl 5 rfl (sl 22 rfl (sl 23 rfl (sl 24 rfl sn))))) en ?_
      refine tri_seq ?_
      refine tri_block ?_
      refine tri_seq ?_
      refine tri_reg mixed hcx ?_ _ _
      refine ix rfl rfl slZss ⟨rfl, by omega⟩ ?_
      refine lf rfl tyZs ?_
      refine asg rfl ?_
      refine ⟨by kernel_rfl, ?_⟩
      refine nx (sl 0 rfl (sl 5 rfl (sl 7 rfl (sl 22 rfl (sl 23 rfl (sl 24 rfl sn)))))) en ?_
      rcases Bool.eq_false_or_eq_true p with h5 | h5; rotate_left; rcases Nat.lt_or_ge 12 (b.getD i (cL (cZi k)).dflt).length with h6 | h6; rotate_left; rotate_left
      · subst h5
        refine tri_reg mixed hcx ?_ _ _
        refine mv rfl ?_
        refine mv rfl ?_
        refine j_off rfl rfl rfl rfl ?_
        refine j_off rfl rfl rfl rfl ?_
        refine j_off rfl rfl rfl rfl ?_
        refine pk rfl rfl ?_
        refine asg rfl ?_
        refine ⟨by kernel_rfl, ?_⟩
        refine pn_blk ?_
        refine nx (sl 0 rfl (sl 5 rfl (sl 22 rfl (sl 23 rfl (sl 24 rfl sn))))) en ?_
        refine tri_reg mixed hcx ?_ _ _
        refine ad (((i + 1 : Nat) : Int)) rfl rfl rfl (by omega) ?_
        refine mv rfl ?_
        refine ⟨by kernel_rfl, ?_⟩
        exact pn_back (i + 1, true) (by dsimp only; omega) ⟨by omega, bigU_t (hp.1 rfl)⟩ (sl 0 rfl (sl 5 rfl (sl 22 rfl (sl 23 rfl (sl 24 rfl sn))))) en
      · subst h5
        refine tri_reg mixed hcx ?_ _ _
        refine mv rfl ?_
        refine mv rfl ?_
        refine mv rfl ?_ (hg := gd1)
        refine ln slZs rfl ?_ (hg := gd1)
        refine cgt rfl rfl (decide_eq_true (by omega)) ?_ (hg := gd1)
        refine pk rfl rfl ?_
        refine asg rfl ?_
        refine ⟨by kernel_rfl, ?_⟩
        refine pn_blk ?_
        refine nx (sl 0 rfl (sl 5 rfl (sl 22 rfl (sl 23 rfl (sl 24 rfl sn))))) en ?_
        refine tri_reg mixed hcx ?_ _ _
        refine ad (((i + 1 : Nat) : Int)) rfl rfl rfl (by omega) ?_
        refine mv rfl ?_
        refine ⟨by kernel_rfl, ?_⟩
        exact pn_back (i + 1, true) (by dsimp only; omega) ⟨by omega, bigU_n h6⟩ (sl 0 rfl (sl 5 rfl (sl 22 rfl (sl 23 rfl (sl 24 rfl sn))))) en
      · subst h5
        refine tri_reg mixed hcx ?_ _ _
        refine mv rfl ?_
        refine mv rfl ?_
        refine mv rfl ?_ (hg := gd1)
        refine ln slZs rfl ?_ (hg := gd1)
        refine cgt rfl rfl (decide_eq_false (by omega)) ?_ (hg := gd1)
        refine pk rfl rfl ?_
        refine asg rfl ?_
        refine ⟨by kernel_rfl, ?_⟩
        refine pn_blk ?_
        refine nx (sl 0 rfl (sl 5 rfl (sl 22 rfl (sl 23 rfl (sl 24 rfl sn))))) en ?_
        refine tri_reg mixed hcx ?_ _ _
        refine ad (((i + 1 : Nat) : Int)) rfl rfl rfl (by omega) ?_
        refine mv rfl ?_
        refine ⟨by kernel_rfl, ?_⟩
        exact pn_back (i + 1, false) (by dsimp only; omega) ⟨by omega, bigU_f (fun h => by have := hp.2 h; cases this) (Nat.not_lt.2 h6)⟩ (sl 0 rfl (sl 5 rfl (sl 22 rfl (sl 23 rfl (sl 24 rfl sn))))) en
    · refine tri_exit ?_
      repeat (first | refine pn_then ?_ | refine pn_oth (by decide) ?_)
      refine pn_ex ?_
      have hin : i = b.length := by omega
      rw [hin] at hp
      refine nx (sl 0 rfl (sl 5 rfl sn)) en ?_
      refine tri_seq ?_
      refine tri_seq ?_
      refine tri_reg mixed hcx ?_ _ _
      refine mv rfl ?_
      refine ⟨by kernel_rfl, ?_⟩
      refine nx (sl 0 rfl (sl 35 rfl sn)) en ?_
      refine tri_cond rfl (fun h7 => ?_) (fun h7 => ?_)
      · have h8 : BigB b true := hp.1 h7
        refine tri_seq ?_
        refine tri_reg mixed hcx ?_ _ _
        refine asg rfl ?_
        refine ⟨by kernel_rfl, ?_⟩
        refine nx (sl 4 rfl sn) en ?_
        refine tri_ret ?_
        repeat (first | refine pn_thenr ?_ | refine pn_blkr ?_)
        exact ret1 hcx rfl (rv_tmp rfl) (ci (hR.big h8).symm) en
      · have h8 : ¬ BigB b true := fun h => by have := hp.2 h; rw [h7] at this; cases this
        have hl12 : b.length ≤ 12 := Nat.not_lt.1 fun h => h8 (.inl h)
        have hr12 : ∀ i, i < b.length → (b.getD i []).length ≤ 12 := fun i hi => Nat.not_lt.1 fun h => h8 (.inr (.inr ⟨i, hi, h⟩))
        refine tri_skip ?_
        refine nx (sl 0 rfl sn) en ?_
        refine tri_seq ?_
        refine tri_seq ?_
        refine tri_reg mixed hcx ?_ _ _
        refine mv rfl ?_
        refine ln slZss rfl ?_
        refine ceq rfl rfl rfl ?_
        refine ⟨by kernel_rfl, ?_⟩
        refine nx (sl 0 rfl (sl 38 rfl sn)) en ?_
        refine tri_if rfl (fun h9 => ?_) (fun h9 => ?_)
        · refine tri_seq ?_
          refine tri_reg mixed hcx ?_ _ _
          refine asg rfl ?_
          refine ⟨by kernel_rfl, ?_⟩
          refine nx (sl 4 rfl sn) en ?_
          refine tri_ret ?_
          repeat (first | refine pn_thenr ?_ | refine pn_blkr ?_)
          exact ret1 hcx rfl (rv_tmp rfl) (ci (hR.nil h8 (by omega)).symm) en
        · have h0 : 0 < b.length := by omega
          refine tri_skip ?_
          refine nx (sl 0 rfl sn) en ?_
          refine tri_seq ?_
          by_cases h10 : BadB b
          · refine tri_reg mixed hcx ?_ _ _
            refine mv rfl ?_
            refine ca rfl (h := mat_Shape_bad h0 hl12 h10 hr12) (hn := ?_)
            refine mv rfl ?_
            refine ex rfl rfl ?_
            refine ex rfl rfl ?_
            refine ex rfl rfl ?_
            refine asg rfl ?_
            refine asg rfl ?_
            refine asg rfl ?_
            refine ⟨by kernel_rfl, ?_⟩
            refine nx (sl 10 rfl sn) en ?_
            refine tri_seq ?_
            refine tri_reg mixed hcx ?_ _ _
            refine mv rfl ?_
            refine asg rfl ?_
            refine ⟨by kernel_rfl, ?_⟩
            refine nx (sl 4 rfl sn) en ?_
            refine tri_ret ?_
            repeat (first | refine pn_thenr ?_ | refine pn_blkr ?_)
            exact ret1 hcx rfl (rv_tmp rfl) (ci (hR.bad h8 (by omega) h10).symm) en
          · have hm : ∀ i, i < b.length → (b.getD i []).length = (b.getD 0 []).length := fun i hi => Decidable.not_not.1 fun e => h10 ⟨i, hi, e⟩
            refine tri_reg mixed hcx ?_ _ _
            refine mv rfl ?_
            refine ca rfl (h := mat_Shape h0 hl12 hm) (hn := ?_)
            refine mv rfl ?_
            refine ex rfl rfl ?_
            refine ex rfl rfl ?_
            refine ex rfl rfl ?_
            refine asg rfl ?_
            refine asg rfl ?_
            refine asg rfl ?_
            refine ⟨by kernel_rfl, ?_⟩
            refine nx (sl 10 rfl sn) en ?_
            refine tri_seq ?_
            refine tri_reg mixed hcx ?_ _ _
            refine mv rfl ?_
            refine asg rfl ?_
            refine ⟨by kernel_rfl, ?_⟩
            refine nx (sl 4 rfl sn) en ?_
            refine tri_ret ?_
            repeat (first | refine pn_thenr ?_ | refine pn_blkr ?_)
            exact ret1 hcx rfl (rv_tmp rfl) (ci (hR.ok h8 (by omega) h10).symm) en

end Go.Proofs.Ytffnfbhhjjbjbaa.V
/- Determinants: the numbers that the data of rows are divided to are whole, and the data say what elimination says. -/
set_option linter.unusedVariables false
namespace Go.Proofs.Ytffnfbhhjjbjbaa.V
open Mt Nml
abbrev Rw := Nat → Rat
/-- The sum along a column, row by row. -/
def sm (f : List Rw → Rat) (c : Nat) : List Rw → List Rw → Rat
  | _, [] => 0
  | pre, r :: rest => r c * f (pre ++ rest) - sm f c (pre ++ [r]) rest
/-- The determinant of n rows from column c on. -/
def Dt : Nat → Nat → List Rw → Rat
  | 0, _, _ => 1
  | n + 1, c, l => sm (Dt n (c + 1)) c [] l
def addm (x : Rw) (q : Rat) (y : Rw) : Rw := fun j => x j + q * y j
def LinD (n : Nat) (f : List Rw → Rat) : Prop := ∀ A x y q B, A.length + B.length + 1 = n → f (A ++ addm x q y :: B) = f (A ++ x :: B) + q * f (A ++ y :: B)
def AltD (n : Nat) (f : List Rw → Rat) : Prop := ∀ A x y B, A.length + B.length + 2 = n → f (A ++ x :: y :: B) = -f (A ++ y :: x :: B)
theorem sm_lin_pre {n c : Nat} {f : List Rw → Rat} (hf : LinD n f) {P : List Rw} {x y : Rw} {q : Rat} : ∀ (rest Q : List Rw), P.length + Q.length + rest.length = n → sm f c (P ++ addm x q y :: Q) rest = sm f c (P ++ x :: Q) rest + q * sm f c (P ++ y :: Q) rest
  | [], Q, _ => by show (0 : Rat) = 0 + q * 0; grind
  | r :: rest, Q, h => by
    have e : ∀ z : Rw, sm f c (P ++ z :: Q) (r :: rest) = r c * f (P ++ z :: (Q ++ rest)) - sm f c (P ++ z :: (Q ++ [r])) rest := fun z => by
      show r c * f ((P ++ z :: Q) ++ rest) - sm f c ((P ++ z :: Q) ++ [r]) rest = _
      simp only [List.append_assoc, List.cons_append]
    simp only [List.length_cons] at h
    rw [e, e, e, hf P x y q (Q ++ rest) (by simp only [List.length_append]; omega), sm_lin_pre hf rest (Q ++ [r]) (by simp only [List.length_append, List.length_cons, List.length_nil]; omega)]
    grind
theorem sm_lin {n c : Nat} {f : List Rw → Rat} (hf : LinD n f) {x y : Rw} {q : Rat} {B : List Rw} : ∀ (A pre : List Rw), pre.length + A.length + B.length = n → sm f c pre (A ++ addm x q y :: B) = sm f c pre (A ++ x :: B) + q * sm f c pre (A ++ y :: B)
  | [], pre, h => by
    show (x c + q * y c) * f (pre ++ B) - sm f c (pre ++ [addm x q y]) B = (x c * f (pre ++ B) - sm f c (pre ++ [x]) B) + q * (y c * f (pre ++ B) - sm f c (pre ++ [y]) B)
    rw [sm_lin_pre hf B [] (by simpa using h)]
    grind
  | a :: A, pre, h => by
    simp only [List.length_cons] at h
    have e : ∀ z : Rw, sm f c pre ((a :: A) ++ z :: B) = a c * f ((pre ++ A) ++ z :: B) - sm f c (pre ++ [a]) (A ++ z :: B) := fun z => by
      show a c * f (pre ++ (A ++ z :: B)) - sm f c (pre ++ [a]) (A ++ z :: B) = _
      rw [← List.append_assoc]
    rw [e, e, e, hf (pre ++ A) x y q B (by simp only [List.length_append]; omega), sm_lin hf A (pre ++ [a]) (by simp only [List.length_append, List.length_cons, List.length_nil]; omega)]
    grind
theorem sm_alt_pre {n c : Nat} {f : List Rw → Rat} (hf : AltD n f) {P : List Rw} {x y : Rw} : ∀ (rest Q : List Rw), P.length + Q.length + 1 + rest.length = n → sm f c (P ++ x :: y :: Q) rest = -sm f c (P ++ y :: x :: Q) rest
  | [], Q, _ => by show (0 : Rat) = -0; grind
  | r :: rest, Q, h => by
    have e : ∀ z w : Rw, sm f c (P ++ z :: w :: Q) (r :: rest) = r c * f (P ++ z :: w :: (Q ++ rest)) - sm f c (P ++ z :: w :: (Q ++ [r])) rest := fun z w => by
      show r c * f ((P ++ z :: w :: Q) ++ rest) - sm f c ((P ++ z :: w :: Q) ++ [r]) rest = _
      simp only [List.append_assoc, List.cons_append]
    simp only [List.length_cons] at h
    rw [e, e, hf P x y (Q ++ rest) (by simp only [List.length_append]; omega), sm_alt_pre hf rest (Q ++ [r]) (by simp only [List.length_append, List.length_cons, List.length_nil]; omega)]
    grind
theorem sm_alt {n c : Nat} {f : List Rw → Rat} (hf : AltD n f) {x y : Rw} {B : List Rw} : ∀ (A pre : List Rw), pre.length + A.length + B.length + 1 = n → sm f c pre (A ++ x :: y :: B) = -sm f c pre (A ++ y :: x :: B)
  | [], pre, h => by
    have e : ∀ z w : Rw, sm f c pre (z :: w :: B) = z c * f (pre ++ w :: B) - (w c * f (pre ++ z :: B) - sm f c (pre ++ z :: w :: []) B) := fun z w => by
      show z c * f (pre ++ w :: B) - (w c * f ((pre ++ [z]) ++ B) - sm f c ((pre ++ [z]) ++ [w]) B) = _
      simp only [List.append_assoc, List.cons_append, List.nil_append]
    show sm f c pre (x :: y :: B) = -sm f c pre (y :: x :: B)
    rw [e, e, sm_alt_pre (x := x) (y := y) hf B [] (by simp only [List.length_nil] at h ⊢; omega)]
    grind
  | a :: A, pre, h => by
    simp only [List.length_cons] at h
    have e : ∀ z w : Rw, sm f c pre ((a :: A) ++ z :: w :: B) = a c * f ((pre ++ A) ++ z :: w :: B) - sm f c (pre ++ [a]) (A ++ z :: w :: B) := fun z w => by
      show a c * f (pre ++ (A ++ z :: w :: B)) - sm f c (pre ++ [a]) (A ++ z :: w :: B) = _
      rw [← List.append_assoc]
    rw [e, e, hf (pre ++ A) x y B (by simp only [List.length_append]; omega), sm_alt hf A (pre ++ [a]) (by simp only [List.length_append, List.length_cons, List.length_nil]; omega)]
    grind
theorem dt_lin : ∀ n c, LinD n (Dt n c)
  | 0, c => fun A x y q B h => absurd h (by omega)
  | n + 1, c => fun A x y q B h => sm_lin (dt_lin n (c + 1)) A [] (by simp only [List.length_nil]; omega)
theorem dt_alt : ∀ n c, AltD n (Dt n c)
  | 0, c => fun A x y B h => absurd h (by omega)
  | n + 1, c => fun A x y B h => sm_alt (dt_alt n (c + 1)) A [] (by simp only [List.length_nil]; omega)
theorem dup_zero {n : Nat} {f : List Rw → Rat} (hf : AltD n f) {x : Rw} {C : List Rw} : ∀ (B A : List Rw), A.length + B.length + C.length + 2 = n → f (A ++ x :: (B ++ x :: C)) = 0
  | [], A, h => by
    have := hf A x x C (by simp only [List.length_nil] at h; omega)
    show f (A ++ x :: x :: C) = 0
    grind
  | b :: B, A, h => by
    simp only [List.length_cons] at h
    have h1 := hf A x b (B ++ x :: C) (by simp only [List.length_append, List.length_cons]; omega)
    have h2 := dup_zero hf (x := x) (C := C) B (A ++ [b]) (by simp only [List.length_append, List.length_cons, List.length_nil]; omega)
    rw [List.append_assoc] at h2
    show f (A ++ x :: b :: (B ++ x :: C)) = 0
    rw [h1]
    show -f (A ++ ([b] ++ x :: (B ++ x :: C))) = 0
    rw [h2]
    grind
def eln (c : Nat) (x r : Rw) : Rw := addm r (-(r c / x c)) x
theorem eln_all {n c : Nat} {x : Rw} : ∀ (l A : List Rw), A.length + l.length + 1 = n → Dt n c (x :: (A ++ l)) = Dt n c (x :: (A ++ l.map (eln c x)))
  | [], A, _ => rfl
  | r :: l, A, h => by
    simp only [List.length_cons] at h
    have h1 := dt_lin n c (x :: A) r x (-(r c / x c)) l (by simp only [List.length_cons]; omega)
    have h2 := dup_zero (dt_alt n c) (x := x) (C := l) A [] (by simp only [List.length_nil]; omega)
    have h3 := eln_all (n := n) (c := c) (x := x) l (A ++ [eln c x r]) (by simp only [List.length_append, List.length_cons, List.length_nil]; omega)
    rw [List.append_assoc, List.append_assoc] at h3
    show Dt n c (x :: (A ++ r :: l)) = Dt n c (x :: (A ++ ([eln c x r] ++ l.map (eln c x))))
    rw [← h3]
    show Dt n c ((x :: A) ++ r :: l) = Dt n c ((x :: A) ++ eln c x r :: l)
    unfold eln
    rw [h1]
    have h2' : Dt n c ((x :: A) ++ x :: l) = 0 := h2
    rw [h2']
    grind
theorem sm_zero {f : List Rw → Rat} {c : Nat} : ∀ (l pre : List Rw), (∀ r ∈ l, r c = 0) → sm f c pre l = 0
  | [], _, _ => rfl
  | r :: l, pre, h => by
    show r c * f (pre ++ l) - sm f c (pre ++ [r]) l = 0
    rw [h r List.mem_cons_self, sm_zero l _ (fun q hq => h q (List.mem_cons_of_mem _ hq))]
    grind
theorem dt_step {n c : Nat} {x : Rw} {l : List Rw} (hx : x c ≠ 0) (hl : l.length = n) : Dt (n + 1) c (x :: l) = x c * Dt n (c + 1) (l.map (eln c x)) := by
  rw [show x :: l = x :: ([] ++ l) from rfl, eln_all l [] (by simp only [List.length_nil]; omega)]
  show x c * Dt n (c + 1) (l.map (eln c x)) - sm (Dt n (c + 1)) c [x] (l.map (eln c x)) = _
  rw [sm_zero _ _ (fun r hr => by
    obtain ⟨q, _, rfl⟩ := List.mem_map.1 hr
    show q c + -(q c / x c) * x c = 0
    rw [Rat.neg_mul, Rat.div_mul_cancel hx]
    grind)]
  grind
/-- The rows behind k steps of elimination. -/
def Mr (g : Nat → Rw) : Nat → Nat → Rw
  | 0, i => g i
  | k + 1, i => eln k (Mr g k k) (Mr g k i)
def pr (g : Nat → Rw) (t : Nat) : Nat → Rat
  | 0 => 1
  | d + 1 => Mr g t t t * pr g (t + 1) d
theorem pr_snoc (g : Nat → Rw) : ∀ d t, pr g t (d + 1) = pr g t d * Mr g (t + d) (t + d) (t + d)
  | 0, t => by show Mr g t t t * 1 = 1 * Mr g (t + 0) (t + 0) (t + 0); rw [Nat.add_zero]; grind
  | d + 1, t => by
    show Mr g t t t * pr g (t + 1) (d + 1) = Mr g t t t * pr g (t + 1) d * _
    rw [pr_snoc g d (t + 1), show t + 1 + d = t + (d + 1) by omega]
    grind
theorem det_M (g : Nat → Rw) (i : Nat) : ∀ d t, (∀ s, t ≤ s → s < t + d → Mr g s s s ≠ 0) → Dt (d + 1) t ((List.range' t d).map (Mr g t) ++ [Mr g t i]) = pr g t d * Mr g (t + d) i (t + d)
  | 0, t, _ => by
    show Mr g t i t * 1 - 0 = 1 * Mr g (t + 0) i (t + 0)
    rw [Nat.add_zero]; grind
  | d + 1, t, h => by
    rw [List.range'_succ, List.map_cons, List.cons_append, dt_step (h t (Nat.le_refl _) (by omega)) (by simp), List.map_append, List.map_map]
    have := det_M g i d (t + 1) (fun s h1 h2 => h s (by omega) (by omega))
    rw [show t + (d + 1) = t + 1 + d by omega]
    show Mr g t t t * Dt (d + 1) (t + 1) (List.map (Mr g (t + 1)) (List.range' (t + 1) d) ++ [Mr g (t + 1) i]) = Mr g t t t * pr g (t + 1) d * _
    rw [this]
    grind
def IsW (q : Rat) : Prop := ∃ z : Int, q = (z : Rat)
theorem IsW.mul {a b : Rat} (h : IsW a) (k : IsW b) : IsW (a * b) := by obtain ⟨x, rfl⟩ := h; obtain ⟨y, rfl⟩ := k; exact ⟨x * y, (Rat.intCast_mul x y).symm⟩
theorem IsW.sub {a b : Rat} (h : IsW a) (k : IsW b) : IsW (a - b) := by obtain ⟨x, rfl⟩ := h; obtain ⟨y, rfl⟩ := k; exact ⟨x - y, (Rat.intCast_sub x y).symm⟩
theorem IsW.one : IsW 1 := ⟨1, rfl⟩
theorem IsW.zero : IsW 0 := ⟨0, rfl⟩
theorem sm_int {f : List Rw → Rat} {c : Nat} (hf : ∀ l : List Rw, (∀ r ∈ l, ∀ j, IsW (r j)) → IsW (f l)) : ∀ (l pre : List Rw), (∀ r ∈ l, ∀ j, IsW (r j)) → (∀ r ∈ pre, ∀ j, IsW (r j)) → IsW (sm f c pre l)
  | [], _, _, _ => IsW.zero
  | r :: l, pre, h, hp => by
    refine ((h r List.mem_cons_self c).mul (hf _ fun q hq => ?_)).sub (sm_int hf l _ (fun q hq => h q (List.mem_cons_of_mem _ hq)) fun q hq => ?_)
    · rcases List.mem_append.1 hq with h1 | h1
      · exact hp q h1
      · exact h q (List.mem_cons_of_mem _ h1)
    · rcases List.mem_append.1 hq with h1 | h1
      · exact hp q h1
      · rw [List.mem_singleton.1 h1]; exact h r List.mem_cons_self
theorem dt_int : ∀ n c (l : List Rw), (∀ r ∈ l, ∀ j, IsW (r j)) → IsW (Dt n c l)
  | 0, _, _, _ => IsW.one
  | n + 1, c, l, h => sm_int (dt_int n (c + 1)) l [] h (fun r hr => by cases hr)
theorem mr_col (g : Nat → Rw) (k j : Nat) : ∀ t, t ≤ k → ∀ i c, Mr (fun s c => if c < k then g s c else g s j) t i c = Mr g t i (if c < k then c else j)
  | 0, _, i, c => by show (if c < k then g i c else g i j) = g i _; split <;> rfl
  | t + 1, h, i, c => by
    have ih := mr_col g k j t (by omega)
    show Mr _ t i c + -(Mr _ t i t / Mr _ t t t) * Mr _ t t c = Mr g t i _ + -(Mr g t i t / Mr g t t t) * Mr g t t _
    rw [ih i c, ih i t, ih t t, ih t c, if_pos (show t < k by omega)]
theorem pr_col (g : Nat → Rw) (k j : Nat) : ∀ d t, t + d ≤ k → pr (fun s c => if c < k then g s c else g s j) t d = pr g t d
  | 0, _, _ => rfl
  | d + 1, t, h => by
    show Mr _ t t t * pr _ (t + 1) d = _ * _
    rw [pr_col g k j d (t + 1) (by omega), mr_col g k j t (by omega) t t, if_pos (show t < k by omega)]
/-- The numerators are whole. -/
theorem minor_int {g : Nat → Rw} (hg : ∀ s c, IsW (g s c)) {k : Nat} (hp : ∀ s, s < k → Mr g s s s ≠ 0) (i j : Nat) : IsW (pr g 0 k * Mr g k i j) := by
  have h := det_M (fun s c => if c < k then g s c else g s j) i k 0 (fun s _ hs => by
    rw [mr_col g k j s (by omega), if_pos (show s < k by omega)]; exact hp s (by omega))
  rw [pr_col g k j k 0 (by omega), Nat.zero_add, mr_col g k j k (Nat.le_refl _), if_neg (Nat.lt_irrefl k)] at h
  rw [← h]
  refine dt_int _ _ _ fun r hr c => ?_
  have hz : ∀ s c, IsW ((fun (s c : Nat) => if c < k then g s c else g s j) s c) := fun s c => by show IsW (if c < k then g s c else g s j); split <;> exact hg _ _
  rcases List.mem_append.1 hr with h1 | h1
  · obtain ⟨q, _, rfl⟩ := List.mem_map.1 h1; exact hz q c
  · rw [List.mem_singleton.1 h1]; exact hz i c
theorem mr_symm {g : Nat → Rw} (hg : ∀ i j, g i j = g j i) : ∀ k i j, Mr g k i j = Mr g k j i
  | 0, i, j => hg i j
  | k + 1, i, j => by
    show Mr g k i j + -(Mr g k i k / Mr g k k k) * Mr g k k j = Mr g k j i + -(Mr g k j k / Mr g k k k) * Mr g k k i
    rw [mr_symm hg k i j, mr_symm hg k k j, mr_symm hg k k i, Rat.div_def, Rat.div_def]
    grind
/-- The products of rows, as fractions. -/
def gU (b : List (List Int)) (i j : Nat) : Int := dotU (b.getD i []) (b.getD j []) (b.getD i []).length
def gR (b : List (List Int)) (i : Nat) : Rw := fun j => ((gU b i j : Int) : Rat)
theorem dotU_comm (xs ys : List Int) : ∀ n, dotU xs ys n = dotU ys xs n
  | 0 => rfl
  | n + 1 => by show dotU xs ys n + _ = dotU ys xs n + _; rw [dotU_comm xs ys n, Int.mul_comm]
/-- Products behind the length are nought. -/
theorem dotU_more {xs ys : List Int} {m : Nat} (h : xs.length ≤ m) : ∀ d, dotU xs ys (m + d) = dotU xs ys m
  | 0 => rfl
  | d + 1 => by
    show dotU xs ys (m + d) + xs.getD (m + d) 0 * _ = _
    rw [dotU_more h d, show xs.getD (m + d) 0 = 0 from by rw [List.getD_eq_getElem?_getD, List.getElem?_eq_none (by omega)]; rfl, Int.zero_mul, Int.add_zero]
theorem gU_symm (b : List (List Int)) (i j : Nat) : gU b i j = gU b j i := by
  unfold gU
  rcases Nat.le_total (b.getD i []).length (b.getD j []).length with h | h
  · obtain ⟨d, hd⟩ := Nat.le.dest h
    rw [← hd, dotU_comm (b.getD j []), dotU_more (Nat.le_refl _) d]
  · obtain ⟨d, hd⟩ := Nat.le.dest h
    rw [← hd, dotU_comm, dotU_more (Nat.le_refl _) d]
theorem gR_symm (b : List (List Int)) (i j : Nat) : gR b i j = gR b j i := by show ((gU b i j : Int) : Rat) = _; rw [gU_symm]; rfl
theorem gR_int (b : List (List Int)) (i j : Nat) : IsW (gR b i j) := ⟨_, rfl⟩
/-- All pivots ahead of n are above nought. -/
def Ok (b : List (List Int)) (n : Nat) : Prop := ∀ k, k < n → 0 < Mr (gR b) k k k
abbrev pb (b : List (List Int)) (k : Nat) : Rat := pr (gR b) 0 k
theorem pb_succ (b : List (List Int)) (k : Nat) : pb b (k + 1) = pb b k * Mr (gR b) k k k := by have := pr_snoc (gR b) k 0; rw [Nat.zero_add] at this; exact this
theorem pb_pos {b : List (List Int)} {n : Nat} (h : Ok b n) : ∀ k, k ≤ n → 0 < pb b k
  | 0, _ => by show (0 : Rat) < 1; decide
  | k + 1, hk => by rw [pb_succ]; exact Rat.mul_pos (pb_pos h k (by omega)) (h k (by omega))
theorem rat_pos_ne {q : Rat} (h : 0 < q) : q ≠ 0 := fun e => by rw [e] at h; exact absurd h (Rat.lt_irrefl)
theorem ok_ne {b : List (List Int)} {n : Nat} (h : Ok b n) {k : Nat} (hk : k < n) : Mr (gR b) k k k ≠ 0 := rat_pos_ne (h k hk)
/-- What the data say, so far. -/
structure DI (b : List (List Int)) (i : Nat) (D : List Int) (L : List (List Int)) : Prop where
  lD : D.length = i + 1
  lL : L.length = i
  ok : Ok b i
  d : ∀ k, k ≤ i → ((D.getD k 0 : Int) : Rat) = pb b k
  lr : ∀ j, j < i → (L.getD j []).length = j
  l : ∀ j k, j < i → k < j → (((L.getD j []).getD k 0 : Int) : Rat) = pb b k * Mr (gR b) k j k
theorem fdiv_exact {x d z : Int} (hd : d ≠ 0) (h : x = d * z) : Int.fdiv x d = z := by subst h; exact Int.mul_fdiv_cancel_left z hd
theorem step_exact {b : List (List Int)} {D Lr row : List Int} {i j k : Nat} {u : Int} (hok : Ok b (k + 1)) (h0 : ((D.getD k 0 : Int) : Rat) = pb b k) (h1 : ((D.getD (k + 1) 0 : Int) : Rat) = pb b (k + 1)) (hu : ((u : Int) : Rat) = pb b k * Mr (gR b) k i j) (hr : ((row.getD k 0 : Int) : Rat) = pb b k * Mr (gR b) k i k) (hl : ((Lr.getD k 0 : Int) : Rat) = pb b k * Mr (gR b) k j k) : ((stepU D Lr row k u : Int) : Rat) = pb b (k + 1) * Mr (gR b) (k + 1) i j := by
  obtain ⟨z, hz⟩ := minor_int (gR_int b) (k := k + 1) (fun s hs => ok_ne hok hs) i j
  have hp := rat_pos_ne (pb_pos hok k (by omega))
  have hm := ok_ne hok (Nat.lt_succ_self k)
  have e : D.getD (k + 1) 0 * u - row.getD k 0 * Lr.getD k 0 = D.getD k 0 * z := by
    refine Rat.intCast_inj.1 ?_
    rw [Rat.intCast_sub, Rat.intCast_mul, Rat.intCast_mul, Rat.intCast_mul, h0, h1, hu, hr, hl, ← hz]
    show pb b (k + 1) * (pb b k * Mr (gR b) k i j) - pb b k * Mr (gR b) k i k * (pb b k * Mr (gR b) k j k) = pb b k * (pb b (k + 1) * (Mr (gR b) k i j + -(Mr (gR b) k i k / Mr (gR b) k k k) * Mr (gR b) k k j))
    rw [pb_succ, mr_symm (gR_symm b) k k j]
    generalize Mr (gR b) k k k = m at hm
    generalize Mr (gR b) k i k = x
    generalize Mr (gR b) k j k = y
    generalize pb b k = p at hp
    grind
  have hd : D.getD k 0 ≠ 0 := fun e0 => by rw [e0] at h0; exact hp h0.symm
  unfold stepU
  rw [fdiv_exact hd e, hz]
theorem red_exact {b : List (List Int)} {D : List Int} {L : List (List Int)} {row : List Int} {i j : Nat} (h : DI b i D L) (hji : j ≤ i) (hr : ∀ k, k < j → ((row.getD k 0 : Int) : Rat) = pb b k * Mr (gR b) k i k) : ∀ k, k ≤ j → ((redU D (pickL L row i j) row (gU b i j) k : Int) : Rat) = pb b k * Mr (gR b) k i j
  | 0, _ => by show ((gU b i j : Int) : Rat) = 1 * ((gU b i j : Int) : Rat); grind
  | k + 1, hk => by
    refine step_exact (fun s hs => h.ok s (by omega)) (h.d k (by omega)) (h.d (k + 1) (by omega)) (red_exact h hji hr k (by omega)) (hr k (by omega)) ?_
    unfold pickL
    split
    · exact h.l j k (by assumption) (by omega)
    · have : j = i := by omega
      subst this; exact hr k (by omega)
theorem row_len {b : List (List Int)} {D : List Int} {L : List (List Int)} {i : Nat} : ∀ j, (rowU b D L i j).length = j
  | 0 => rfl
  | j + 1 => by unfold rowU; rw [List.length_append, row_len j]; rfl
theorem row_exact {b : List (List Int)} {D : List Int} {L : List (List Int)} {i : Nat} (h : DI b i D L) : ∀ j, j ≤ i + 1 → ∀ k, k < j → (((rowU b D L i j).getD k 0 : Int) : Rat) = pb b k * Mr (gR b) k i k
  | 0, _, k, hk => absurd hk (Nat.not_lt_zero _)
  | j + 1, hj, k, hk => by
    unfold rowU
    rcases Nat.lt_or_ge k j with h1 | h1
    · rw [gl_lt (by rw [row_len]; exact h1)]; exact row_exact h j (by omega) k h1
    · rw [gl_eq (by rw [row_len]; omega), show k = j by omega]
      exact red_exact h (by omega) (fun k hk => row_exact h j (by omega) k hk) j (Nat.le_refl _)
theorem row_pos {b : List (List Int)} {D : List Int} {L : List (List Int)} {i : Nat} (h : DI b i D L) : 0 < (rowU b D L i (i + 1)).getD i 0 ↔ 0 < Mr (gR b) i i i := by
  have e := row_exact h (i + 1) (Nat.le_refl _) i (Nat.lt_succ_self i)
  have hp := pb_pos h.ok i (Nat.le_refl _)
  rw [← Rat.intCast_lt_intCast, e]
  show (0 : Rat) < _ ↔ _
  constructor
  · intro h1
    by_cases h2 : 0 < Mr (gR b) i i i
    · exact h2
    · exfalso
      replace h2 := Rat.not_lt.1 h2
      have := Rat.mul_le_mul_of_nonneg_left h2 (Rat.le_of_lt hp)
      rw [Rat.mul_zero] at this
      exact absurd h1 (Rat.not_lt.2 this)
  · exact Rat.mul_pos hp
theorem DI.zero (b : List (List Int)) : DI b 0 [1] [] := ⟨rfl, rfl, fun k hk => absurd hk (Nat.not_lt_zero _), fun k hk => by rw [show k = 0 by omega]; rfl, fun j hj => absurd hj (Nat.not_lt_zero _), fun j k hj => absurd hj (Nat.not_lt_zero _)⟩
theorem DI.step {b : List (List Int)} {D : List Int} {L : List (List Int)} {i : Nat} (h : DI b i D L) (hp : 0 < (rowU b D L i (i + 1)).getD i 0) : DI b (i + 1) (D ++ [(rowU b D L i (i + 1)).getD i 0]) (L ++ [(rowU b D L i (i + 1)).take i]) := by
  have hm := (row_pos h).1 hp
  have hr := row_exact h (i + 1) (Nat.le_refl _)
  refine ⟨by rw [List.length_append, h.lD]; rfl, by rw [List.length_append, h.lL]; rfl, fun k hk => ?_, fun k hk => ?_, fun j hj => ?_, fun j k hj hk => ?_⟩
  · rcases Nat.lt_or_ge k i with h1 | h1
    · exact h.ok k h1
    · rw [show k = i by omega]; exact hm
  · rcases Nat.lt_or_ge k (i + 1) with h1 | h1
    · rw [gl_lt (by rw [h.lD]; exact h1)]; exact h.d k (by omega)
    · rw [gl_eq (by rw [h.lD]; omega), show k = i + 1 by omega, hr i (Nat.lt_succ_self i), pb_succ]
  · rcases Nat.lt_or_ge j i with h1 | h1
    · rw [gl_lt (by rw [h.lL]; exact h1)]; exact h.lr j h1
    · rw [gl_eq (by rw [h.lL]; omega), List.length_take, row_len]; omega
  · rcases Nat.lt_or_ge j i with h1 | h1
    · rw [gl_lt (by rw [h.lL]; exact h1)]; exact h.l j k h1 hk
    · rw [gl_eq (by rw [h.lL]; omega), take_getD (by omega), hr k (by omega), show j = i by omega]
theorem bld_DI {b : List (List Int)} : ∀ {i : Nat} {D : List Int} {L : List (List Int)}, bld b i = some (D, L) → DI b i D L
  | 0, D, L, h => by cases h; exact DI.zero b
  | i + 1, D, L, h => by
    obtain ⟨D', L', h1, h2, h3⟩ := bld_prev h
    cases h3
    exact (bld_DI h1).step h2
end Go.Proofs.Ytffnfbhhjjbjbaa.V
