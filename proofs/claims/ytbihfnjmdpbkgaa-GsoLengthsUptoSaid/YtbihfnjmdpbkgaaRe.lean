/- What is read of data of rows, with the number of rows bounded by what is read. -/
import Derived.Test.YtbihfnjmdpbkgaaRd
import Derived.Test.YtbihfnjmdpbkgaaKH
set_option linter.unusedVariables false
set_option linter.unusedSimpArgs false
namespace Go.Proofs.Ytbihfnjmdpbkgaa.V
open Go.Deep Go.ChangeShapes Go.WideShapes Go.ChangeAt Go.RowKit Mt Nml

theorem read_listp {α : Type} (c : Cod α) (p : Nat → α → Prop) {W : World} {base : Nat} {a : Addr} : ∀ {len : Nat}, (∀ i, i < len → ∃ z cs' v, W.cells? base (a.add (i * c.sz)) c.sz = some cs' ∧ v.cells.toList = cs' ∧ (c.X z).rep B0 W v ∧ p i z) → ∃ l : List α, l.length = len ∧ (∀ i, i < len → p i (l.getD i c.dflt)) ∧ ∃ xs, Els c l W xs ∧ Stand W a xs ∧ xs.length = len * c.sz
  | 0, _ => ⟨[], rfl, fun i hi => absurd hi (Nat.not_lt_zero _), [], rfl, fun j v h => by simp at h, by simp⟩
  | len + 1, hx => by
    obtain ⟨l, hl, hp, xs, hE, hS, hn⟩ := read_listp c p (len := len) (fun i hi => hx i (by omega))
    obtain ⟨z, cs', v, h1, h2, h3, h5⟩ := hx len (by omega)
    obtain ⟨_, k1, k2⟩ := World.cells?_some h1
    refine ⟨l ++ [z], by rw [List.length_append, hl]; rfl, fun i hi => ?_, xs ++ cs', ?_, fun j y hy => ?_, by rw [List.length_append, hn, k1, Nat.succ_mul]⟩
    · rcases Nat.lt_or_ge i len with h | h
      · rw [gl_lt (by omega)]; exact hp i h
      · rw [gl_eq (by omega), show i = len by omega]; exact h5
    · show Cells B0 W ((l ++ [z]).map c.X) (xs ++ cs')
      rw [List.map_append, ← h2]
      exact Cells.append hE (cells_one (by rw [c.sz0]; exact c.pos) h3)
    · rcases Nat.lt_or_ge j xs.length with h | h
      · rw [List.getElem?_append_left h] at hy; exact hS j y hy
      · obtain ⟨d, rfl⟩ : ∃ d, j = xs.length + d := ⟨j - xs.length, by omega⟩
        rw [List.getElem?_append_right h, Nat.add_sub_cancel_left] at hy
        have hj : d < c.sz := by rw [← k1]; exact (List.getElem?_eq_some_iff.1 hy).1
        have := k2 d hj
        rw [hy] at this
        rw [← this, hn]
        rw [← addr_add_add]
section
variable {H : Type} {enc : TypeId × Value → H} {W : World} {base : Nat} {spare : Nat → Bool} {held : Bool} {fuel : Nat} {cs : List Value} {x : DataW H × List MemPlace}
theorem bulk_append : ∀ (l l' : List (DataW H)), Rows.uptoBulkAll (l ++ l') = Rows.uptoBulkAll l + Rows.uptoBulkAll l'
  | [], l' => (Nat.zero_add _).symm
  | d :: r, l' => by
    show Rows.uptoBulk d + Rows.uptoBulkAll (r ++ l') = Rows.uptoBulk d + Rows.uptoBulkAll r + _
    rw [bulk_append r l']; omega
theorem bulk_sum (D : Nat → DataW H) : ∀ n, (∀ i, i < n → i ≤ Rows.uptoBulk (D i)) → n * n ≤ 2 * Rows.uptoBulkAll ((List.range n).map D) + n
  | 0, _ => Nat.zero_le _
  | n + 1, h => by
    have h1 := bulk_sum D n (fun i hi => h i (by omega))
    have h2 := h n (by omega)
    rw [List.range_succ, List.map_append, bulk_append]
    show _ ≤ 2 * (_ + (Rows.uptoBulk (D n) + 0)) + _
    have e : (n + 1) * (n + 1) = n * n + 2 * n + 1 := by rw [Nat.add_mul, Nat.mul_add]; omega
    omega
theorem read_rows2 {k : Nat} (h : DataW.trod enc Try.prog W base spare held fuel 22 cs = some x) (hk : Rows.uptoBulk x.1 ≤ k) (hk2 : k ≤ 1048576) : ∃ v l, cs = [v] ∧ (T.l (cL (cZi k)) l).rep B0 W v ∧ l.length ≤ Rows.uptoBulk x.1 ∧ ((∀ i, i < l.length → (l.getD i []).length = i) → l.length ≤ 2048) := by
  rcases open_slice Try.underlying22 h with ⟨rfl, rfl⟩ | ⟨a, len, cap, m, n, D, Pl, rfl, hb, hl, hm, hmm, rfl, hx⟩
  · exact ⟨_, [], rfl, nil_l _ _ _ _ rfl, Nat.zero_le _, fun _ => Nat.zero_le _⟩
  · have hml : len ≤ m := by rw [hmm]; split <;> omega
    have hbl : len ≤ Rows.uptoBulkAll ((List.range len).map D) := by have := bulk_all (l := (List.range len).map D); simpa using this
    have hbk : Rows.uptoBulkAll ((List.range len).map D) + Rows.uptoBulkAll ((List.range (m - len)).map fun j => D (len + j)) + 1 ≤ k := hk
    obtain ⟨l, h1, hp, xs, h2, h3, h4⟩ := read_listp (cL (cZi k)) (fun i z => z.length ≤ Rows.uptoBulk (D i)) (W := W) (base := base) (a := a) (len := len) (fun i hi => by
      obtain ⟨cs', k1, k2⟩ := hx i (by omega)
      rw [show Try.prog.cellsOf 24 = 1 from by kernel_rfl] at k1
      obtain ⟨v, z, e, hz, hzl⟩ := read_ints (k := k) k2 (by have := bulk_mem (l := (List.range len).map D) (List.mem_map_of_mem (List.mem_range.2 hi)); show Rows.uptoBulk (D i) ≤ k; omega)
      subst e
      refine ⟨z, [v], v, k1, ?_, hz, hzl⟩
      obtain ⟨A, n, q, rfl, _⟩ := hz
      rfl)
    refine ⟨_, l, rfl, ⟨some a, len, cap, rfl, h1, hl, by unfold maxLen at hm; omega, fun hp => ⟨a, rfl, xs, h2, h3⟩⟩, ?_, fun hg => ?_⟩
    · show _ ≤ Rows.uptoBulkAll ((List.range len).map D) + Rows.uptoBulkAll ((List.range (m - len)).map fun j => D (len + j)) + 1
      omega
    · have hs := bulk_sum D len (fun i hi => by have e := hg i (by omega); have := hp i hi; rw [show (l.getD i (cL (cZi k)).dflt).length = i from e] at this; exact this)
      rw [h1]
      rcases Nat.lt_or_ge 2048 len with h9 | h9
      · exfalso
        have h10 : 2049 * len ≤ len * len := Nat.mul_le_mul_right _ h9
        omega
      · exact h9
set_option maxRecDepth 100000 in
theorem read_Gso2 {k : Nat} (h : DataW.trod enc Try.prog W base spare held fuel 26 cs = some x) (hk : Rows.uptoBulk x.1 ≤ k) (hk2 : k ≤ 1048576) : ∃ D L, (T.G D L k).rep B0 W (.agg cs.toArray) ∧ D.length ≤ k ∧ L.length ≤ k ∧ (GoodP D L → L.length ≤ 2048) := by
  obtain ⟨y0, y1, m, rfl, hl, h0, h1⟩ := trod_struct2 Try.underlying26 h
  have hl2 : cs.length = 2 := hl.trans (by kernel_rfl)
  have hk' : Rows.uptoBulk y0.1 + (Rows.uptoBulk y1.1 + 0) + 1 ≤ k := hk
  match cs, hl2 with
  | [c0, c1], _ =>
    obtain ⟨v, D, e0, hD, hDn⟩ := read_ints (k := k) h0 (by omega)
    obtain ⟨w, L, e1, hL, hLn, hL2⟩ := read_rows2 (k := k) h1 (by omega) hk2
    have k0 : (([c0, c1] : List Value).drop 0).take (Try.prog.cellsOf 24) = [c0] := by rw [show Try.prog.cellsOf 24 = 1 from by kernel_rfl]; rfl
    have k1 : (([c0, c1] : List Value).drop 1).take (Try.prog.cellsOf 22) = [c1] := by rw [show Try.prog.cellsOf 22 = 1 from by kernel_rfl]; rfl
    have e0' : [c0] = [v] := k0.symm.trans e0
    have e1' : [c1] = [w] := k1.symm.trans e1
    cases e0'
    cases e1'
    refine ⟨D, L, ⟨[c0, c1], rfl, c0, [c1], by show (1 : Nat) ≠ 0; omega, hD, ?_, c1, [], by show (1 : Nat) ≠ 0; omega, hL, ?_, rfl⟩, by omega, by omega, fun hG => hL2 fun i hi => (hG.2.2.2 i hi).1⟩
    · obtain ⟨A, n, q, rfl, _⟩ := hD; rfl
    · obtain ⟨A, n, q, rfl, _⟩ := hL; rfl
end
end Go.Proofs.Ytbihfnjmdpbkgaa.V
