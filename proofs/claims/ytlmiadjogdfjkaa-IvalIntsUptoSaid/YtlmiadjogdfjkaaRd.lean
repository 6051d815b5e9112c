/- What is read of the arguments of a law: whole numbers, lists of them, lists of lists, data of rows. -/
import Derived.Test.YtlmiadjogdfjkaaRows
import Derived.Test.YtlmiadjogdfjkaaKC
import Derived.ChangeSame
import Derived.ChangeSlices
import Derived.Deep.Slices
import Derived.ProofKit
set_option linter.unusedVariables false
set_option linter.unusedSimpArgs false
namespace Go.Proofs.Ytlmiadjogdfjkaa.V
open Go.Deep Go.ChangeShapes Go.WideShapes Go.ChangeAt Go.RowKit Mt Nml

theorem cells_one {β : Env} {u : World} {X : T} {v : Value} (h0 : X.sz ≠ 0) (h : X.rep β u v) : Cells β u [X] v.cells.toList := ⟨v, [], h0, h, by simp, rfl⟩
theorem addr_add_add (a : Addr) (m n : Nat) : (a.add m).add n = a.add (m + n) := by
  unfold Addr.add
  by_cases h : m = 0
  · subst h; simp
  · by_cases h2 : n = 0
    · subst h2; simp [h]
    · simp [h, h2, Nat.add_assoc]
theorem read_list {α : Type} (c : Cod α) {W : World} {base : Nat} {a : Addr} : ∀ {len : Nat}, (∀ i, i < len → ∃ z cs' v, W.cells? base (a.add (i * c.sz)) c.sz = some cs' ∧ v.cells.toList = cs' ∧ (c.X z).rep B0 W v) → ∃ l : List α, l.length = len ∧ ∃ xs, Els c l W xs ∧ Stand W a xs ∧ xs.length = len * c.sz
  | 0, _ => ⟨[], rfl, [], rfl, fun j v h => by simp at h, by simp⟩
  | len + 1, hx => by
    obtain ⟨l, hl, xs, hE, hS, hn⟩ := read_list c (len := len) (fun i hi => hx i (by omega))
    obtain ⟨z, cs', v, h1, h2, h3⟩ := hx len (by omega)
    obtain ⟨_, k1, k2⟩ := World.cells?_some h1
    refine ⟨l ++ [z], by rw [List.length_append, hl]; rfl, xs ++ cs', ?_, fun j y hy => ?_, by rw [List.length_append, hn, k1, Nat.succ_mul]⟩
    · show Cells B0 W ((l ++ [z]).map c.X) (xs ++ cs')
      rw [List.map_append, ← h2]
      exact Cells.append hE (cells_one (by rw [c.sz0]; exact c.pos) h3)
    · rcases Nat.lt_or_ge j xs.length with h | h
      · rw [List.getElem?_append_left h] at hy; exact hS j y hy
      · obtain ⟨d, rfl⟩ : ∃ d, j = xs.length + d := ⟨j - xs.length, by omega⟩
        rw [List.getElem?_append_right h, Nat.add_sub_cancel_left] at hy
        have hj : d < c.sz := by rw [← k1]; exact (List.getElem?_eq_some_iff.1 hy).1
        have := k2 d hj
        rw [hy] at this
        rw [← this, hn]
        rw [← addr_add_add]
section
variable {H : Type} {enc : TypeId × Value → H} {W : World} {base : Nat} {spare : Nat → Bool} {held : Bool} {fuel : Nat} {cs : List Value} {x : DataW H × List MemPlace}
theorem bulk_pos (d : DataW H) : 1 ≤ Rows.uptoBulk d := by
  cases d with
  | lit l => cases l <;> simp [Rows.uptoBulk]
  | _ => simp [Rows.uptoBulk]
theorem bulk_all : ∀ {l : List (DataW H)}, l.length ≤ Rows.uptoBulkAll l
  | [] => Nat.zero_le _
  | d :: r => by
    have h1 := bulk_pos d
    have h2 := bulk_all (l := r)
    show r.length + 1 ≤ Rows.uptoBulk d + Rows.uptoBulkAll r
    omega
theorem bulk_mem : ∀ {l : List (DataW H)} {d : DataW H}, d ∈ l → Rows.uptoBulk d ≤ Rows.uptoBulkAll l
  | d' :: r, d, h => by
    show _ ≤ Rows.uptoBulk d' + Rows.uptoBulkAll r
    rcases List.mem_cons.1 h with h | h
    · subst h; omega
    · have := bulk_mem h; omega
theorem bulk_lits (k : IntKind) : ∀ l : List Int, Rows.uptoBulkAll (H := H) (lits k l) = l.length
  | [] => rfl
  | a :: l => by
    show Rows.uptoBulk (DataW.lit (H := H) (.int k a)) + Rows.uptoBulkAll (lits k l) = _
    rw [bulk_lits k l, List.length_cons]
    show 1 + l.length = _
    omega
theorem read_lims (h : DataW.trod enc Try.prog W base spare held fuel 25 cs = some x) : ∃ v xs, cs = [v] ∧ (T.l cU xs).rep B0 W v ∧ Lim xs ∧ xs.length ≤ Rows.uptoBulk x.1 := by
  rcases open_ints Try.underlying25 Try.underlying77 (by kernel_rfl) h with ⟨rfl, rfl⟩ | ⟨a, len, cap, zs, rfl, _, hl, hm, hz, rfl, hcell, hwz⟩
  · exact ⟨_, [], rfl, nil_l cU _ _ _ rfl, Lim.nil, Nat.zero_le _⟩
  · have hz' : len ≤ zs.length := by rw [hz]; split <;> omega
    have hb : (zs.take len).length = len := by rw [List.length_take]; omega
    have hlim : Lim (zs.take len) := fun z hz0 => by
      have := hwz z (List.mem_of_mem_take hz0)
      have e0 : IntKind.u32.min = 0 := by kernel_rfl
      have e1 : IntKind.u32.max = 4294967295 := by kernel_rfl
      simp [Lit.wf] at this
      constructor <;> omega
    refine ⟨_, zs.take len, rfl, ⟨some a, len, cap, rfl, hb, hl, by unfold maxLen at hm; omega, fun hp => ⟨a, rfl, _, els_cU _ _, fun j y hy => ?_⟩⟩, hlim, ?_⟩
    · rw [List.getElem?_map, Option.map_eq_some_iff] at hy
      obtain ⟨z, h1, rfl⟩ := hy
      have hj : j < len := by rw [← hb]; exact (List.getElem?_eq_some_iff.1 h1).1
      rw [hcell j (by omega), List.getD_eq_getElem?_getD, ← List.getElem?_take_of_lt hj, h1]; rfl
    · show _ ≤ Rows.uptoBulkAll (lits .u32 (zs.take len)) + _ + 1
      rw [bulk_lits]; omega
set_option maxRecDepth 100000 in
theorem read_Zi {k : Nat} (h : DataW.trod enc Try.prog W base spare held fuel 27 cs = some x) (hk : Rows.uptoBulk x.1 ≤ k) : ∃ z, (T.Zi z k).rep B0 W (.agg cs.toArray) := by
  obtain ⟨y0, y1, m, rfl, hl, h0, h1⟩ := trod_struct2 Try.underlying27 h
  have hl2 : cs.length = 2 := hl.trans (by kernel_rfl)
  match cs, hl2 with
  | [c0, c1], _ =>
    obtain ⟨s, e0, _⟩ := DataW.trod_bool Try.underlying4 h0
    obtain ⟨v, xs, e1, hr, hli, hn⟩ := read_lims h1
    have k0 : (([c0, c1] : List Value).drop 0).take (Try.prog.cellsOf 4) = [c0] := by rw [show Try.prog.cellsOf 4 = 1 from by kernel_rfl]; rfl
    have k1 : (([c0, c1] : List Value).drop 1).take (Try.prog.cellsOf 25) = [c1] := by rw [show Try.prog.cellsOf 25 = 1 from by kernel_rfl]; rfl
    have e0' : [c0] = [Value.bool s] := k0.symm.trans e0
    have e1' : [c1] = [v] := k1.symm.trans e1
    cases e0'
    cases e1'
    have hk' : Rows.uptoBulk y1.1 ≤ k := by
      have : Rows.uptoBulk y0.1 + (Rows.uptoBulk y1.1 + 0) + 1 ≤ k := hk
      omega
    refine ⟨_, (s, xs), ⟨hli, rfl, Nat.le_trans hn hk'⟩, [.bool s, c1], rfl, .bool s, [c1], by show (1 : Nat) ≠ 0; omega, rfl, rfl, c1, [], by show (1 : Nat) ≠ 0; omega, hr, ?_, rfl⟩
    obtain ⟨A, n, q, rfl, _⟩ := hr
    rfl
end
/-- A function that leaves what it found: what its caller sees. -/
theorem fn_calls_of {P : Program} {f : FuncId} {As : List T} {v : Value} (h : Fn P f As [] [] [] (T.c v)) {W : World} {vs : List Value} (hr : Reps B0 W As vs) : Calls P f vs.toArray W fun e w' => e = .returned v ∧ Below W.heap.size W w' :=
  (h vs B0 W W (fun _ _ => False) (Sub.refl W) hr (Hold.none _ _ _ _)).mono fun e w' ⟨v', he, u', β', F', h1, h2, h3, h4, h5⟩ => ⟨by rw [he, show v' = v from h5], ⟨h2.os, h2.tape, h2.output, h2.size, fun k hk => h2.block k hk (fun ⟨c, hc, _⟩ => by cases hc)⟩⟩
end Go.Proofs.Ytlmiadjogdfjkaa.V
