/- Words for contracts: a slice of limbs that reads as a number, whatever its noughts (RN), or in one form (CN). -/
import Derived.Test.YtaagioghkicdkaaProg
import Derived.Test.YtaagioghkicdkaaWWords
import Derived.Test.YtaagioghkicdkaaMath
import Derived.Lib.Hide
import Derived.Deep.QuietTactic
import Derived.BigQuiet
set_option linter.unusedVariables false
set_option linter.unusedSimpArgs false
namespace Go.Proofs.Ytaagioghkicdkaa
open Go.RowKit Go.Proofs.YtaagioghkicdkaaW.PrintWords Mt

theorem infoU32 : (Try.prog.info? 93).map (fun i => (i.zero, i.size, i.bytes)) = some (some (.int .u32 0), 1, 4) := by kernel_rfl

/-- Limbs at A that say N. -/
def RN (w : World) (A : Option Addr) (n c : Nat) (N : Nat) : Prop := n ≤ c ∧ ∃ xs, ReadsInt w .u32 A n xs ∧ Lim xs ∧ val xs = N
/-- Limbs at A that are N's own. -/
def CN (w : World) (A : Option Addr) (n c : Nat) (N : Nat) : Prop := n ≤ c ∧ ReadsInt w .u32 A n (dig N)
theorem CN.rn {w : World} {A : Option Addr} {n c N : Nat} (h : CN w A n c N) : RN w A n c N := ⟨h.1, _, h.2, dig_lim N, dig_val N⟩
theorem RN.below {w w1 : World} {A : Option Addr} {n c N : Nat} (h : RN w A n c N) (hb : Below w.heap.size w w1) : RN w1 A n c N := by
  obtain ⟨h0, xs, h1, h2⟩ := h
  exact ⟨h0, xs, h1.below hb, h2⟩
theorem CN.below {w w1 : World} {A : Option Addr} {n c N : Nat} (h : CN w A n c N) (hb : Below w.heap.size w w1) : CN w1 A n c N := ⟨h.1, h.2.below hb⟩
theorem RN.drew {w : World} {A : Option Addr} {n c N : Nat} (h : RN w A n c N) : RN w.drew A n c N := h.below (below_drew (Below.refl _ _))
theorem CN.len {w : World} {A : Option Addr} {n c N : Nat} (h : CN w A n c N) : n = lim N := h.2.1.symm
theorem ReadsInt.take {w : World} {k : IntKind} {A : Option Addr} {n m : Nat} {xs : List Int} (h : ReadsInt w k A n xs) (hm : m ≤ n) : ReadsInt w k A m (xs.take m) := by
  obtain ⟨h1, h2, h3⟩ := h
  refine ⟨by rw [List.length_take]; omega, by omega, fun hp => ?_⟩
  obtain ⟨ad, e, hc⟩ := h3 (by omega)
  refine ⟨ad, e, fun j hj => ?_⟩
  rw [hc j (by omega)]
  simp [List.getD_eq_getElem?_getD, hj]
theorem ReadsInt.none {w : World} {k : IntKind} {A : Option Addr} : ReadsInt w k A 0 [] := ⟨rfl, by omega, fun h => absurd h (by omega)⟩
/-- What is cut of noughts is a number's own limbs. -/
theorem CN.mk {w : World} {A : Option Addr} {n c N : Nat} {xs : List Int} (hn : n ≤ c) (h : ReadsInt w .u32 A n xs) (hl : Lim xs) (hv : val xs = N) : CN w A (tl xs n) c N := by
  have h1 := h.1
  have h2 := tl_le xs n
  refine ⟨by omega, ?_⟩
  have e : xs.take (tl xs n) = dig N := dig_of (hl.take _) (tl_can (by omega)) (by rw [tl_val (by omega), ← h1, List.take_length]; exact hv)
  rw [← e]
  exact ReadsInt.take h h2
theorem rd_at (xs : List Int) (k : Nat) : rd xs (k : Int) = at_ xs k := rfl
theorem add_succ (ad : Addr) (k : Nat) : ad.add (k + 1) = ⟨ad.block, ad.off + (k + 1), none⟩ := by unfold Addr.add; simp
theorem add_block (ad : Addr) (k : Nat) : (ad.add k).block = ad.block := by unfold Addr.add; split <;> rfl
theorem grown_drewN {w w1 : World} {row : Option Nat} (h : w.grownBy w1 row) (n : Nat) : w.grownBy (w1.drewN n) row := ⟨h.os, h.tape, h.output, h.size, h.block⟩
theorem grown_cell {w w1 : World} {g : Nat} (h : w.grownBy w1 (some g)) {p : Addr} {v : Value} (hc : w.cell? p = some v) (hne : p.block ≠ g) : w1.cell? p = some v :=
  (World.cell?_of_block (w := w) (h.block p.block (World.block_lt_of_cell? w p hc) (by simpa using hne))).trans hc
/-- All that was there reads as it did. -/
theorem bcell {W w1 : World} (hb : Below W.heap.size W w1) : (∀ b o, b < W.heap.size → w1.cell? ⟨b, o, none⟩ = W.cell? ⟨b, o, none⟩) ∧ (∀ b o, b < W.heap.size → w1.frozen? ⟨b, o, none⟩ = W.frozen? ⟨b, o, none⟩) :=
  ⟨fun b o h => hb.cell (p := ⟨b, o, none⟩) h, fun b o h => hb.frozen (p := ⟨b, o, none⟩) h⟩
/-- A block of two cells. -/
theorem blk2 {w : World} {g : Nat} {a b : Value} {t : TypeId} (h : w.heap[g]? = some (.cells #[a, b] t (0, 0))) : w.cell? ⟨g, 0, none⟩ = some a ∧ w.cell? ⟨g, 1, none⟩ = some b ∧ w.frozen? ⟨g, 0, none⟩ = false ∧ w.frozen? ⟨g, 1, none⟩ = false := by
  simp [World.cell?, World.frozen?, h]
theorem blk1 {w : World} {g : Nat} {a : Value} {t : TypeId} (h : w.heap[g]? = some (.cells #[a] t (0, 0))) : w.cell? ⟨g, 0, none⟩ = some a ∧ w.frozen? ⟨g, 0, none⟩ = false := by
  simp [World.cell?, World.frozen?, h]
theorem heap_get (w : World) (o : Obj) (k : Nat) : (w.alloc o).heap[k]? = if k = w.heap.size then some o else w.heap[k]? := by
  show (w.heap.push o)[k]? = _
  rw [Array.getElem?_push]
theorem heap1 (w : World) (o : Obj) : (w.alloc o).heap[w.heap.size]? = some o := by rw [heap_get, if_pos rfl]
theorem heap21 (w : World) (o p : Obj) : ((w.alloc o).alloc p).heap[w.heap.size]? = some o := by rw [heap_get, if_neg (by simp), heap1]
theorem heap22 (w : World) (o p : Obj) : ((w.alloc o).alloc p).heap[w.heap.size + 1]? = some p := by rw [heap_get, if_pos (by simp)]
theorem heap31 (w : World) (o p q : Obj) : (((w.alloc o).alloc p).alloc q).heap[w.heap.size]? = some o := by rw [heap_get, if_neg (by simp <;> omega), heap21]
theorem heap32 (w : World) (o p q : Obj) : (((w.alloc o).alloc p).alloc q).heap[w.heap.size + 1]? = some p := by rw [heap_get, if_neg (by simp), heap22]
theorem heap33 (w : World) (o p q : Obj) : (((w.alloc o).alloc p).alloc q).heap[w.heap.size + 1 + 1]? = some q := by rw [heap_get, if_pos (by simp)]
theorem heap41 (w : World) (o p q r : Obj) : ((((w.alloc o).alloc p).alloc q).alloc r).heap[w.heap.size]? = some o := by rw [heap_get, if_neg (by simp <;> omega), heap31]
theorem heap42 (w : World) (o p q r : Obj) : ((((w.alloc o).alloc p).alloc q).alloc r).heap[w.heap.size + 1]? = some p := by rw [heap_get, if_neg (by simp <;> omega), heap32]
theorem heap43 (w : World) (o p q r : Obj) : ((((w.alloc o).alloc p).alloc q).alloc r).heap[w.heap.size + 1 + 1]? = some q := by rw [heap_get, if_neg (by simp), heap33]
theorem heap44 (w : World) (o p q r : Obj) : ((((w.alloc o).alloc p).alloc q).alloc r).heap[w.heap.size + 1 + 1 + 1]? = some r := by rw [heap_get, if_pos (by simp)]
theorem below1 (w : World) (o : Obj) : Below w.heap.size w (w.alloc o) := (Below.refl _ _).alloc (Nat.le_refl _) _
theorem below2 (w : World) (o p : Obj) : Below w.heap.size w ((w.alloc o).alloc p) := (below1 _ _).alloc (by simp) _
theorem below3 (w : World) (o p q : Obj) : Below w.heap.size w (((w.alloc o).alloc p).alloc q) := (below2 _ _ _).alloc (by simp <;> omega) _
theorem below4 (w : World) (o p q r : Obj) : Below w.heap.size w ((((w.alloc o).alloc p).alloc q).alloc r) := (below3 _ _ _ _).alloc (by simp <;> omega) _
theorem lt_of_heap {w : World} {g : Nat} {o : Obj} (h : w.heap[g]? = some o) : g < w.heap.size := (Array.getElem?_eq_some_iff.1 h).1
/-- A block of two cells, behind a call. -/
theorem keep2 {W w1 : World} (hB : Below W.heap.size W w1) {g : Nat} {a b : Value} {t : TypeId} (h : W.heap[g]? = some (.cells #[a, b] t (0, 0))) :
    w1.cell? ⟨g, 0, none⟩ = some a ∧ w1.cell? ⟨g, 1, none⟩ = some b ∧ w1.frozen? ⟨g, 0, none⟩ = false ∧ w1.frozen? ⟨g, 1, none⟩ = false ∧ g < w1.heap.size := by
  have h1 := (hB.block g (lt_of_heap h)).trans h
  obtain ⟨a1, a2, a3, a4⟩ := blk2 h1
  exact ⟨a1, a2, a3, a4, lt_of_heap h1⟩
/-- What was made by a call, behind stores into older blocks of one's own. -/
theorem made_far {α : Type} {d : Kd α} {w W w1 : World} {x : α} {cs : List Value} (hwW : Below w.heap.size w W) (hM : d.M w1 W.heap.size (fun _ => True) x cs) (hB : Below W.heap.size W w1) {r : Nat} (h0 : w.heap.size ≤ r) (h1 : r < W.heap.size) (j : Nat) (u : Value) :
    d.M (w1.setCell ⟨r, j, none⟩ u) W.heap.size (fun _ => True) x cs ∧ Below w.heap.size w (w1.setCell ⟨r, j, none⟩ u) :=
  ⟨d.M_mono (fun _ _ => trivial) (Kd.M_far (p := ⟨r, j, none⟩) (d.M_bound hM) (fun k hk => by show k ≠ r; omega) u), (hwW.trans (hB.mono hwW.size)).setCell h0 u⟩
theorem drew_right {w w1 : World} (h : Below w.drew.heap.size w.drew w1) : Below w.heap.size w w1 := (below_drew (Below.refl _ w)).trans h
/-- A contract whose premise is paid behind: the world is known then. -/
theorem calls_pre {P : Program} {f : FuncId} {args : Array Value} {w : World} {R R' : Ending → World → Prop} {p : Prop} (h : p → Calls P f args w R) (hp : p) (k : ∀ e w', R e w' → R' e w') : Calls P f args w R' := (h hp).mono k
theorem ret_int {k : IntKind} {a b : Int} (h : a = b) : Ending.returned (.int k a) = .returned (.int k b) := by rw [h]
end Go.Proofs.Ytaagioghkicdkaa
