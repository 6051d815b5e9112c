/- A logic for regions whose order is open: whole numbers of the machine; loops; limbs as rows. -/
import Derived.Test.YtaagioghkicdkaaUE
import Derived.Test.YtaagioghkicdkaaUD
import Derived.IntWalk
set_option linter.unusedVariables false
set_option linter.unusedSimpArgs false
namespace Go.Proofs.Ytaagioghkicdkaa
open Go.RowKit Go.Proofs.YtaagioghkicdkaaW.PrintWords Mt

section
variable {P : Program} {R : Reg} {w0 u0 : World} {i : Nat} {o : Oper}
/-- A value that is reckoned, and its plain name. -/
theorem pw {c c' : Value} (e : c' = c) (h : ∀ f w, (execOp (R.ev i f) o).run P w = .ok (.value c') w := by intro f w; kernel_rfl) : R.Ob P w0 u0 i o (.con c) := fun f u w _ => .inl (by rw [← e]; exact h f w)
theorem w64 {n m : Int} (h : n = m ∧ -9223372036854775808 ≤ m ∧ m ≤ 9223372036854775807) : Value.int .i64 (IntKind.i64.wrap n) = .int .i64 m := by rw [h.1, IntWalk.i64_in _ h.2]
theorem wu64 {n m : Int} (h : n = m ∧ 0 ≤ m ∧ m ≤ 18446744073709551615) : Value.int .u64 (IntKind.u64.wrap n) = .int .u64 m := by rw [h.1, IntWalk.u64_in _ h.2]
theorem wu32 {n m : Int} (h : n = m ∧ 0 ≤ m ∧ m ≤ 4294967295) : Value.int .u32 (IntKind.u32.wrap n) = .int .u32 m := by rw [h.1, IntWalk.u32_in _ h.2]
theorem qu64 {n d m : Int} (h : n / d = m ∧ 0 ≤ n ∧ n ≤ 18446744073709551615 ∧ 1 ≤ d) : Value.int .u64 (IntKind.u64.wrap (n.tdiv d)) = .int .u64 m := by rw [IntWalk.u64_quo _ _ h.2, h.1]
theorem q64 {n d m : Int} (h : n / d = m ∧ 0 ≤ n ∧ n ≤ 9223372036854775807 ∧ 1 ≤ d) : Value.int .i64 (IntKind.i64.wrap (n.tdiv d)) = .int .i64 m := by rw [IntWalk.i64_quo _ _ h.2, h.1]
theorem ru64 {n d m : Int} (h : n % d = m ∧ 0 ≤ n) : Value.int .u64 (n.tmod d) = .int .u64 m := by rw [Int.tmod_eq_emod_of_nonneg h.2, h.1]
theorem r64 {n d m : Int} (h : n % d = m ∧ 0 ≤ n) : Value.int .i64 (n.tmod d) = .int .i64 m := by rw [Int.tmod_eq_emod_of_nonneg h.2, h.1]
theorem bt {p : Prop} [Decidable p] (h : p) : Value.bool (decide p) = .bool true := by rw [decide_eq_true h]
theorem bf {p : Prop} [Decidable p] (h : ¬ p) : Value.bool (decide p) = .bool false := by rw [decide_eq_false h]
theorem bet {α : Type} [BEq α] [LawfulBEq α] {a b : α} (h : a = b) : Value.bool (a == b) = .bool true := by rw [beq_iff_eq.2 h]
theorem bef {α : Type} [BEq α] [LawfulBEq α] {a b : α} (h : a ≠ b) : Value.bool (a == b) = .bool false := by rw [beq_eq_false_iff_ne.2 h]
theorem bnt {α : Type} [BEq α] [LawfulBEq α] {a b : α} (h : a ≠ b) : Value.bool (a != b) = .bool true := by rw [bne_iff_ne.2 h]
theorem bnf {α : Type} [BEq α] [LawfulBEq α] {a b : α} (h : a = b) : Value.bool (a != b) = .bool false := by subst h; simp
end
section
variable {P : Program} {Q : Exit → Act → World → Prop} {n : Nat} {w0 u : World} {g : List (Nat × Value)} {bx : List Box} {rw : List Row} {K L : Act → World → Prop}
theorem pn_ex {id : Nat} (h : PN n w0 (Q .normal) g bx rw u) : PN n w0 (Exit.inBlock id Q (.exit id)) g bx rw u := fun a w hF hS => by
  show Exit.inBlock id Q (.exit id) a w
  simp only [Exit.inBlock, if_true]
  exact h a w hF hS
theorem pn_blk {id : Nat} (h : PN n w0 (Q .normal) g bx rw u) : PN n w0 (Exit.inBlock id Q .normal) g bx rw u := h
theorem pn_then {e : Exit} (he : e ≠ .normal) (h : PN n w0 (Q e) g bx rw u) : PN n w0 (Exit.then K Q e) g bx rw u := fun a w hF hS => by
  have := h a w hF hS
  cases e <;> first | exact absurd rfl he | exact this
end
/-- Limbs as a row. -/
def dL (_ : World) (x : Int) (cs : List Value) : Prop := cs = [.int .u32 x]
theorem dLk : DK dL 1 := ⟨fun _ _ _ _ _ h => h, fun _ _ _ h => by rw [show _ = _ from h]; simp [Value.oneCell'], fun _ _ _ h => by rw [show _ = _ from h]; rfl, by omega⟩
theorem bsL {P : Program} {R : Reg} {w0 u0 : World} {i : Nat} {o : Oper} {t e : TypeId} {bytes : Nat} {x : Int} {y : Operand} (hT : SlT P t e 1 bytes) (ho : o.op = .buildSlice t 1 #[(0, y)] := by rfl) (hy : ∀ f, R.ev i f y = .int .u32 x := by intro f; kernel_rfl) : R.Ob P w0 u0 i o (.opq fun u r => Sl dL u r [x]) :=
  bs1 dLk hT (fun f u w _ => by rw [hy f]; rfl) rfl ho
theorem dL_els {u : World} : ∀ (l : List Int) (xs : List Value), Els dL l u xs → xs = l.map (Value.int .u32)
  | [], _, h => h
  | a :: l, xs, ⟨cs, r, e, h1, h2⟩ => by rw [e, show cs = _ from h1, dL_els l r h2]; rfl
theorem els_dL (u : World) : ∀ l : List Int, Els dL l u (l.map (Value.int .u32))
  | [] => rfl
  | a :: l => ⟨[.int .u32 a], _, rfl, rfl, els_dL u l⟩
theorem Sl.reads {u : World} {A : Option Addr} {n c : Nat} {l : List Int} (h : Sl dL u (.slice A n c) l) : ReadsInt u .u32 A n l := by
  obtain ⟨A', n', c', e, h1, h2, h3, h4⟩ := h
  cases e
  refine ⟨h1, h3, fun hp => ?_⟩
  obtain ⟨ad, ea, xs, h5, h6⟩ := h4 hp
  refine ⟨ad, ea, fun j hj => h6 j _ ?_⟩
  rw [dL_els l xs h5]
  simp [List.getD, List.getElem?_eq_getElem (show j < l.length by omega)]
theorem sl_of_reads {u : World} {A : Option Addr} {n c : Nat} {l : List Int} (h : ReadsInt u .u32 A n l) (hc : n ≤ c) : Sl dL u (.slice A n c) l := by
  obtain ⟨h1, h3, h4⟩ := h
  refine ⟨A, n, c, rfl, h1, hc, h3, fun hp => ?_⟩
  obtain ⟨ad, ea, h5⟩ := h4 hp
  refine ⟨ad, ea, _, els_dL u l, fun j v hv => ?_⟩
  have hj : j < l.length := by have := (List.getElem?_eq_some_iff.1 hv).1; simpa using this
  rw [h5 j (by omega)]
  simp [List.getElem?_eq_getElem hj] at hv
  simp [List.getD, List.getElem?_eq_getElem hj, hv]
/-- A slice of limbs that says N. -/
theorem Lv.sl {u : World} {v : Value} {N b : Nat} (h : Lv u v N b) : ∃ xs, Sl dL u v xs ∧ Lim xs ∧ val xs = N ∧ xs.length ≤ b := by
  obtain ⟨A, n, c, rfl, hb, hc, xs, h1, h2, h3⟩ := h
  exact ⟨xs, sl_of_reads h1 hc, h2, h3, by rw [h1.1]; exact hb⟩
theorem LCv.of {u : World} {v : Value} {N : Nat} (h : Sl dL u v (dig N)) : LCv u v N := by
  have h' := h
  obtain ⟨A, n, c, e, h1, h2, _⟩ := h'
  subst e
  exact ⟨A, n, c, rfl, h2, h.reads⟩
theorem LCv.sl {u : World} {v : Value} {N : Nat} (h : LCv u v N) : Sl dL u v (dig N) := by
  obtain ⟨A, n, c, rfl, hc, h⟩ := h
  exact sl_of_reads h hc
theorem Lv.of {u : World} {v : Value} {xs : List Int} {N b : Nat} (h : Sl dL u v xs) (hl : Lim xs) (hv : val xs = N) (hb : xs.length ≤ b) : Lv u v N b := by
  have h' := h
  obtain ⟨A, n, c, e, h1, h2, _⟩ := h'
  subst e
  exact ⟨A, n, c, rfl, by omega, h2, xs, h.reads, hl, hv⟩
theorem LCv.lv {u : World} {v : Value} {N b : Nat} (h : LCv u v N) (hb : lim N ≤ b) : Lv u v N b := by
  obtain ⟨A, n, c, rfl, h⟩ := h
  exact ⟨A, n, c, rfl, by rw [h.len]; exact hb, h.rn⟩
end Go.Proofs.Ytaagioghkicdkaa
