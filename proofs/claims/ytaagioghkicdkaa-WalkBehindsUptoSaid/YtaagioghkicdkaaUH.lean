/- A logic for regions whose order is open: contracts of the packages nat and zint, told in it. -/
import Derived.Test.YtaagioghkicdkaaUG
set_option linter.unusedVariables false
set_option linter.unusedSimpArgs false
namespace Go.Proofs.Ytaagioghkicdkaa
open Go.RowKit Go.Proofs.YtaagioghkicdkaaW.PrintWords Mt

/-- What was known, and all that is new. -/
def mixw (u w : World) (B : Nat) : World := { w with heap := Array.ofFn (n := w.heap.size) fun b => if b.val < B then (u.heap[b.val]?).getD (.cells #[] 0 (0, 0)) else w.heap[b] }
theorem mixw_new {u w : World} {B k : Nat} (h : B ≤ k) : (mixw u w B).heap[k]? = w.heap[k]? := by
  unfold mixw
  by_cases hk : k < w.heap.size
  · simp only [Array.getElem?_ofFn, hk, dif_pos]
    rw [if_neg (by omega), Array.getElem?_eq_getElem hk]; rfl
  · simp only [Array.getElem?_ofFn, hk, dif_neg, not_false_iff]
    rw [Array.getElem?_eq_none (by omega)]
theorem mixw_old {u w w' : World} (hs : Sub u w) (hb : Below w.heap.size w w') {a : Addr} (h : a.block < w.heap.size) : (mixw u w' w.heap.size).cell? a = u.cell? a := by
  have hlt : a.block < w'.heap.size := Nat.lt_of_lt_of_le h hb.size
  unfold World.cell? mixw
  simp only [Array.getElem?_ofFn, hlt, dif_pos]
  rw [if_pos h]
  cases hu : u.heap[a.block]? with
  | none => simp
  | some ob => simp
theorem mixw_cell {u w : World} {B : Nat} {a : Addr} (h : B ≤ a.block) : (mixw u w B).cell? a = w.cell? a := by
  unfold World.cell?
  rw [mixw_new h]
theorem adv_mix {u w w' : World} (hs : Sub u w) (hb : Below w.heap.size w w') : Adv w u w' (mixw u w' w.heap.size) := by
  have hl : ∀ a v, u.cell? a = some v → a.block < w.heap.size := fun a v hv => by
    have := hs a v hv
    exact Nat.lt_of_not_le fun hle => by rw [cell_none hle] at this; cases this
  have hsw : ∀ a v, u.cell? a = some v → w'.cell? a = some v := fun a v hv => pw_cell_below hb (hs a v hv)
  refine ⟨hb, fun a v hv => by rw [mixw_old hs hb (hl a v hv)]; exact hv, fun a v hv => ?_, fun p hp hd a ha => by rw [mixw_old hs hb (by omega)]; exact hd a ha⟩
  by_cases h : a.block < w.heap.size
  · rw [mixw_old hs hb h] at hv; exact hsw a v hv
  · rw [mixw_cell (by omega)] at hv; exact hv
section
variable {P : Program} {f : FuncId} {args : Array Value} {u : World}
theorem fn_mix {Post : World → Value → Prop} (h : ∀ w, Sub u w → Calls P f args w fun e w' => ∃ v, e = .returned v ∧ Below w.heap.size w w' ∧ Post (mixw u w' w.heap.size) v) : Fn P f args u Post := fun w hs =>
  (h w hs).mono fun e w' ⟨v, e1, hb, hp⟩ => ⟨v, _, e1, adv_mix hs hb, hp⟩
theorem cI_mix {w' : World} {z : Int} {s : Bool} {A : Option Addr} {n c : Nat} {ok : Nat → Prop} {B : Nat} (h : cI.M w' B ok z [.bool s, .slice A n c]) : CI (mixw u w' B) s A n c z :=
  cI_CI (cI.K_of_M (cI.M_move (fun k hk => mixw_new hk.2.1) (cI.M_bound h)))
theorem fn_retI {z : Int} (h : ∀ w, Sub u w → Calls P f args w fun e w' => RetI w w' e z) : Fn P f args u (fun u r => Cv u r z) := fn_mix fun w hs =>
  (h w hs).mono fun e w' ⟨s, A, n, c, e1, hM, hb⟩ => ⟨_, e1, hb, s, A, n, c, rfl, cI_mix hM⟩
theorem fn_is {c : Value} (h : ∀ w, Sub u w → Calls P f args w fun e w' => e = .returned c ∧ Below w.heap.size w w') : Fn P f args u (Is c) := fn_mix fun w hs =>
  (h w hs).mono fun e w' ⟨e1, hb⟩ => ⟨_, e1, hb, rfl⟩
theorem cn_mix {w' : World} {B : Nat} {C : Option Addr} {n c N : Nat} (h : CN w' C n c N) (hf : ∀ ad, C = some ad → B ≤ ad.block) : CN (mixw u w' B) C n c N := by
  obtain ⟨h0, h1, h2, h3⟩ := h
  refine ⟨h0, h1, h2, fun hp => ?_⟩
  obtain ⟨ad, e, hc⟩ := h3 hp
  exact ⟨ad, e, fun j hj => by rw [mixw_cell (by rw [add_block]; exact hf ad e)]; exact hc j hj⟩
end
theorem n_Div {u : World} {v x : Value} {M N a b : Nat} (h : Lv u v M a) (h' : Lv u x N b) (ha : a ≤ 4398046511104) (hb : b ≤ 4398046511104) (hN : 0 < N) :
    Fn Try.prog 162 #[v, x] u (Tup3 (fun u r => LCv u r (M / N)) (fun u r => LCv u r (M % N)) (Is (.int .i64 0))) := by
  obtain ⟨A, n, c, rfl, l, h⟩ := h
  obtain ⟨D, m, d, rfl, l', h'⟩ := h'
  exact fn_mix fun w hs => (nat_DivF A D n m c d M N w (h.sub hs) (h'.sub hs) hN (by omega) (by omega)).mono fun e w' ⟨C1, n1, c1, C2, n2, c2, e1, k1, k2, hB, f1, f2⟩ => ⟨_, e1, hB, _, _, _, rfl, ⟨_, _, _, rfl, cn_mix k1 f1⟩, ⟨_, _, _, rfl, cn_mix k2 f2⟩, rfl⟩
section
variable {u : World} {v x : Value} {z y : Int} {k l : Nat}
theorem z_made {s : Bool} {N : Nat} (h : Lv u v N k) (hk : k ≤ 4398046511104) : Fn Try.prog 125 #[.bool s, v] u (fun u r => Cv u r (intv s N)) := by
  obtain ⟨A, n, c, rfl, l, h⟩ := h
  exact fn_retI fun w hs => zint_made s A n c N w (h.sub hs) (by omega)
theorem z_Neg (h : Iv u v z k) (hk : k ≤ 4398046511104) : Fn Try.prog 163 #[v] u (fun u r => Cv u r (-z)) := by
  obtain ⟨s, A, n, c, rfl, h⟩ := h
  exact fn_retI fun w hs => zint_Neg s A n c k z w (h.sub hs) hk
theorem z_Form (h : Iv u v z k) (hk : k ≤ 4398046511104) : Fn Try.prog 123 #[v] u (fun u r => Cv u r z) := by
  obtain ⟨s, A, n, c, rfl, h⟩ := h
  exact fn_retI fun w hs => zint_Form s A n c k z w (h.sub hs) hk
theorem z_Sign (h : Iv u v z k) (hk : k ≤ 4398046511104) : Fn Try.prog 55 #[v] u (Is (.int .i64 (sg z))) := by
  obtain ⟨s, A, n, c, rfl, h⟩ := h
  exact fn_is fun w hs => zint_Sign s A n c k z w (h.sub hs) hk
theorem z_Bits (h : Iv u v z k) (hk : k ≤ 4398046511104) : Fn Try.prog 168 #[v] u (Is (.int .i64 (nbits z.natAbs))) := by
  obtain ⟨s, A, n, c, rfl, h⟩ := h
  exact fn_is fun w hs => zint_Bits s A n c k z w (h.sub hs) hk
theorem z_Of {n : Int} (h0 : -9223372036854775808 ≤ n) (h1 : n < 9223372036854775808) : Fn Try.prog 81 #[.int .i64 n] u (fun u r => Cv u r n) := fn_retI fun w hs => zint_Of n w h0 h1
theorem z_Mul (h : Iv u v z k) (h' : Iv u x y l) (hk : k ≤ 4398046511104) (hl : l ≤ 4398046511104) : Fn Try.prog 126 #[v, x] u (fun u r => Cv u r (z * y)) := by
  obtain ⟨s, A, n, c, rfl, h⟩ := h
  obtain ⟨t, D, m, d, rfl, h'⟩ := h'
  exact fn_retI fun w hs => zint_Mul s A n c k z t D m d l y w (h.sub hs) (h'.sub hs) hk hl
theorem z_Add (h : Iv u v z k) (h' : Iv u x y l) (hk : k ≤ 4398046511104) (hl : l ≤ 4398046511104) : Fn Try.prog 109 #[v, x] u (fun u r => Cv u r (z + y)) := by
  obtain ⟨s, A, n, c, rfl, h⟩ := h
  obtain ⟨t, D, m, d, rfl, h'⟩ := h'
  exact fn_retI fun w hs => zint_Add s A n c k z t D m d l y w (h.sub hs) (h'.sub hs) hk hl
theorem z_Sub (h : Iv u v z k) (h' : Iv u x y l) (hk : k ≤ 4398046511104) (hl : l ≤ 4398046511104) : Fn Try.prog 141 #[v, x] u (fun u r => Cv u r (z - y)) := by
  obtain ⟨s, A, n, c, rfl, h⟩ := h
  obtain ⟨t, D, m, d, rfl, h'⟩ := h'
  exact fn_retI fun w hs => zint_Sub s A n c k z t D m d l y w (h.sub hs) (h'.sub hs) hk hl
theorem z_Gcd (h : Iv u v z k) (h' : Iv u x y l) (hk : k ≤ 4398046511104) (hl : l ≤ 4398046511104) : Fn Try.prog 164 #[v, x] u (fun u r => Cv u r (Int.gcd z y)) := by
  obtain ⟨s, A, n, c, rfl, h⟩ := h
  obtain ⟨t, D, m, d, rfl, h'⟩ := h'
  exact fn_retI fun w hs => zint_Gcd s A n c k z t D m d l y w (h.sub hs) (h'.sub hs) hk hl
theorem z_Compare (h : Iv u v z k) (h' : Iv u x y l) (hk : k ≤ 4398046511104) (hl : l ≤ 4398046511104) : Fn Try.prog 135 #[v, x] u (Is (.int .i64 (sgnc z y))) := by
  obtain ⟨s, A, n, c, rfl, h⟩ := h
  obtain ⟨t, D, m, d, rfl, h'⟩ := h'
  exact fn_is fun w hs => zint_Compare s A n c k z t D m d l y w (h.sub hs) (h'.sub hs) hk hl
end
namespace Mt
theorem lim_add2 {M N a b : Nat} (h : lim M ≤ a) (h' : lim N ≤ b) : lim (M + N) ≤ a + b + 1 := lim_add (Nat.le_trans h (Nat.le_add_right _ _)) (Nat.le_trans h' (Nat.le_add_left _ _))
theorem zl_mul {a b : Int} {k l : Nat} (h : zl a ≤ k) (h' : zl b ≤ l) : zl (a * b) ≤ k + l := by unfold zl at *; rw [Int.natAbs_mul]; exact Nat.le_trans (lim_mul _ _) (Nat.add_le_add h h')
theorem zl_add {a b : Int} {k l : Nat} (h : zl a ≤ k) (h' : zl b ≤ l) : zl (a + b) ≤ k + l + 1 := by unfold zl at *; exact Nat.le_trans (lim_mono (Int.natAbs_add_le _ _)) (lim_add2 h h')
theorem zl_neg {a : Int} {k : Nat} (h : zl a ≤ k) : zl (-a) ≤ k := by unfold zl at *; rwa [Int.natAbs_neg]
theorem zl_sub {a b : Int} {k l : Nat} (h : zl a ≤ k) (h' : zl b ≤ l) : zl (a - b) ≤ k + l + 1 := by rw [Int.sub_eq_add_neg]; exact zl_add h (zl_neg h')
theorem zl_gcd {a b : Int} {k l : Nat} (h : zl a ≤ k) (h' : zl b ≤ l) : zl (Int.gcd a b) ≤ max k l := by unfold zl at *; rw [Int.natAbs_natCast]; exact lim_gcd h h'
theorem zl_of {n : Int} (h0 : -9223372036854775808 ≤ n) (h1 : n < 9223372036854775808) : zl n ≤ 2 := by unfold zl; exact lim_le (by rw [B_succ, B_succ, B_zero]; omega)
end Mt
end Go.Proofs.Ytaagioghkicdkaa
