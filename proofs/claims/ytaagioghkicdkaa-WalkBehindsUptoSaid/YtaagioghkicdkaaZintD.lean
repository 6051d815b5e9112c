/- Contracts of package zint: small numbers, divisors, quotients. -/
import Derived.Test.YtaagioghkicdkaaZintC
import Derived.Deep.DeepCutAuto
set_option linter.unusedVariables false
set_option linter.unusedSimpArgs false
namespace Go.Proofs.Ytaagioghkicdkaa
open Go.RowKit Go.Proofs.YtaagioghkicdkaaW.PrintWords Mt

theorem two_limbs (w : World) (x : Nat) (hx : x < 18446744073709551616) : RN (w.alloc (.cells #[.int .u32 ((x : Int) % 4294967296), .int .u32 ((x : Int) / 4294967296)] 93)) (some ⟨w.heap.size, 0, none⟩) 2 2 x := by
  have ho : (w.alloc (.cells #[.int .u32 ((x : Int) % 4294967296), .int .u32 ((x : Int) / 4294967296)] 93)).ownsRow w.heap.size 93 1 (.slice (some ⟨w.heap.size, 0, none⟩) 2 2) 2 (nums .u32 [(x : Int) % 4294967296, (x : Int) / 4294967296]) := own_lit w w.heap.size 93 .u32 [_, _] (Nat.le_refl _) (by simp)
  obtain ⟨A', c', he, hrd⟩ := own_reads ho
  cases he
  exact ⟨Nat.le_refl _, _, hrd, Lim.cons (by omega) (by omega) (Lim.one (by omega) (by omega)), by simp [val]; omega⟩

set_option maxRecDepth 100000 in
set_option maxHeartbeats 1600000 in
theorem zint_Of (n : Int) (w : World) (h0 : -9223372036854775808 ≤ n) (h1 : n < 9223372036854775808) :
    Calls Try.prog 81 #[.int .i64 n] w fun e w' => RetI w w' e n := by
  have key : ∃ x : Nat, x < 18446744073709551616 ∧ n.natAbs = x := ⟨_, by omega, rfl⟩
  obtain ⟨x, hx, hn⟩ := key
  have hlm := Lib.hid (two_limbs (w.alloc (.cells #[.bool false, .slice none 0 0] 31)) x hx)
  by_cases hneg : n < 0
  · have e1 : IntKind.u64.wrap (-IntKind.u64.wrap n) = x := by rw [IntKind.wrap_u64, IntKind.wrap_u64]; omega
    have hv := Lib.hid (show intv true x = n by unfold intv; simp; omega)
    clear hn
    go_enter Try.func81, Try.ntmps81
    go_wp2_with fail
    rw [World.size_alloc] at hlm
    with_reducible refine (zint_made _ _ _ _ _ _ hlm.out (by omega)).mono ?_
    rintro e w1 ⟨s', A', n', c', rfl, hM, hB⟩
    obtain ⟨b1, b2, b3, b4, hz⟩ := keep2 hB (heap21 _ _ _)
    have HM := Lib.hid hM
    have HB := Lib.hid hB
    clear hM hB
    go_wp2
    refine bodyPost_ret (v := .agg #[.bool s', .slice A' n' c']) (by simp [results, Try.results81, go_sem, b1, b2, b3, b4, hz]) rfl ?_
    have := retI_close (below2 _ _ _) HM.out HB.out (r := w.heap.size) (by omega) (by simp <;> omega) (.bool s') (.slice A' n' c')
    rwa [hv.out] at this
  · have e1 : IntKind.u64.wrap n = x := by rw [IntKind.wrap_u64]; omega
    have hv := Lib.hid (show intv false x = n by unfold intv; simp; omega)
    clear hn
    go_enter Try.func81, Try.ntmps81
    go_wp2_with fail
    rw [World.size_alloc] at hlm
    with_reducible refine (zint_made _ _ _ _ _ _ hlm.out (by omega)).mono ?_
    rintro e w1 ⟨s', A', n', c', rfl, hM, hB⟩
    obtain ⟨b1, b2, b3, b4, hz⟩ := keep2 hB (heap21 _ _ _)
    have HM := Lib.hid hM
    have HB := Lib.hid hB
    clear hM hB
    go_wp2
    refine bodyPost_ret (v := .agg #[.bool s', .slice A' n' c']) (by simp [results, Try.results81, go_sem, b1, b2, b3, b4, hz]) rfl ?_
    have := retI_close (below2 _ _ _) HM.out HB.out (r := w.heap.size) (by omega) (by simp <;> omega) (.bool s') (.slice A' n' c')
    rwa [hv.out] at this

set_option maxRecDepth 100000 in
set_option maxHeartbeats 1600000 in
theorem zint_Gcd (s1 : Bool) (A1 : Option Addr) (n1 c1 b1 : Nat) (x : Int) (s2 : Bool) (A2 : Option Addr) (n2 c2 b2 : Nat) (y : Int) (w : World) (h1 : GI w s1 A1 n1 c1 x b1) (h2 : GI w s2 A2 n2 c2 y b2) (hb1 : b1 ≤ 4398046511104) (hb2 : b2 ≤ 4398046511104) :
    Calls Try.prog 164 #[.agg #[.bool s1, .slice A1 n1 c1], .agg #[.bool s2, .slice A2 n2 c2]] w fun e w' => RetI w w' e (Int.gcd x y) := by
  obtain ⟨k1, M, r1, rfl⟩ := h1
  obtain ⟨k2, N, r2, rfl⟩ := h2
  have l1 := r1.len_ge
  have l2 := r2.len_ge
  have R1 := Lib.hid (r1.below (below3 w (.cells #[.bool s1, .slice A1 n1 c1] 31) (.cells #[.bool s2, .slice A2 n2 c2] 31) (.cells #[.bool false, .slice none 0 0] 31)))
  have R2 := Lib.hid (r2.below (below3 w (.cells #[.bool s1, .slice A1 n1 c1] 31) (.cells #[.bool s2, .slice A2 n2 c2] 31) (.cells #[.bool false, .slice none 0 0] 31)))
  clear r1 r2
  go_enter Try.func164, Try.ntmps164
  go_wp2_with fail
  with_reducible refine (nat_Gcd _ _ _ _ _ _ _ _ _ R1.out R2.out (by omega) (by omega)).mono ?_
  rintro e w1 ⟨C, n, c, rfl, hC, hB⟩
  obtain ⟨hc, hf⟩ := bcell hB
  have hz := hB.size
  simp at hz
  have hz2 : w.heap.size + 1 + 1 < w1.heap.size := by omega
  have hl : n ≤ 8796093022208 := by
    rw [hC.len]
    rcases Nat.eq_zero_or_pos M with h | h
    · subst h; rw [Nat.gcd_zero_left]; omega
    · have := lim_mono (Nat.gcd_le_left N h); omega
  have HC := Lib.hid hC
  have HB1 := Lib.hid hB
  clear hC hB
  go_wp2_with fail
  with_reducible refine (zint_made _ _ _ _ _ _ HC.out.rn (by omega)).mono ?_
  rintro e w3 ⟨s', A', n', c', rfl, hM, hB⟩
  obtain ⟨hc2, hf2⟩ := bcell hB
  have hy2 : w.heap.size + 1 + 1 < w3.heap.size := by have := hB.size; omega
  have HM := Lib.hid hM
  have HB2 := Lib.hid hB
  clear hM hB
  go_wp2
  refine bodyPost_ret (v := .agg #[.bool s', .slice A' n' c']) (by simp [results, Try.results164, go_sem, hc, hf, hc2, hf2, hz2, hy2]) rfl ?_
  have := retI_close (below_then (below3 _ _ _ _) (by simp; omega) HB1.out) HM.out HB2.out (r := w.heap.size + 1 + 1) (by omega) hz2 (.bool s') (.slice A' n' c')
  rwa [show intv false (Nat.gcd M N) = ((Int.gcd (intv s1 M) (intv s2 N) : Nat) : Int) from by unfold Int.gcd; rw [intv_natAbs, intv_natAbs]; rfl] at this

set_option maxRecDepth 100000 in
set_option maxHeartbeats 1600000 in
theorem zint_Bits (s : Bool) (A : Option Addr) (n c b : Nat) (z : Int) (w : World) (h : GI w s A n c z b) (hs : b ≤ 4398046511104) :
    Calls Try.prog 168 #[.agg #[.bool s, .slice A n c]] w fun e w' => e = .returned (.int .i64 (nbits z.natAbs)) ∧ Below w.heap.size w w' := by
  obtain ⟨hb, N, hr, hz⟩ := h
  subst hz
  have hr2 := Lib.hid (hr.below (below1 w (.cells #[.bool s, .slice A n c] 31)))
  clear hr
  go_enter Try.func168, Try.ntmps168
  go_wp2_with fail
  with_reducible refine (nat_Bits _ _ _ _ _ hr2.out (by omega)).mono ?_
  rintro e w' ⟨rfl, rfl⟩
  go_wp2
  go_ret
  exact ⟨ret_int (by rw [intv_natAbs]), below1 _ _⟩

/-! ### frames, by backward steps -/
/-- A block of a whole number's two cells. -/
def Blk2 (w : World) (g : Nat) (a b : Value) : Prop := w.heap[g]? = some (.cells #[a, b] 31 (0, 0))
theorem Blk2.lt {w : World} {g : Nat} {a b : Value} (h : Blk2 w g a b) : g < w.heap.size := lt_of_heap h
theorem Blk2.alloc {w : World} {g : Nat} {a b : Value} (h : Blk2 w g a b) (o : Obj) : Blk2 (w.alloc o) g a b := (Below.heap_alloc w o g h.lt).trans h
theorem Blk2.new (w : World) (a b : Value) : Blk2 (w.alloc (.cells #[a, b] 31)) w.heap.size a b := heap1 w _
theorem Blk2.drew {w : World} {g : Nat} {a b : Value} (h : Blk2 w g a b) : Blk2 w.drew g a b := h
theorem Blk2.drewN {w : World} {g : Nat} {a b : Value} (h : Blk2 w g a b) (n : Nat) : Blk2 (w.drewN n) g a b := (pw_below_drewN (Below.refl w.heap.size w) n).block g h.lt |>.trans h
theorem Blk2.below {w w1 : World} {g : Nat} {a b : Value} (h : Blk2 w g a b) (hb : Below w.heap.size w w1) : Blk2 w1 g a b := (hb.block g h.lt).trans h
theorem Blk2.far {w : World} {g h : Nat} {a b : Value} (k : Blk2 w g a b) (hne : g ≠ h) (j : Nat) (u : Value) : Blk2 (w.setCell ⟨h, j, none⟩ u) g a b := (Below.heap_setCell w ⟨h, j, none⟩ u g hne).trans k
theorem Blk2.set0 {w : World} {g : Nat} {a b : Value} (h : Blk2 w g a b) (u : Value) : Blk2 (w.setCell ⟨g, 0, none⟩ u) g u b := by
  unfold Blk2 at *
  simp [World.setCell, Array.getElem?_modify, h]
theorem Blk2.set1 {w : World} {g : Nat} {a b : Value} (h : Blk2 w g a b) (u : Value) : Blk2 (w.setCell ⟨g, 1, none⟩ u) g a u := by
  unfold Blk2 at *
  simp [World.setCell, Array.getElem?_modify, h]
theorem Blk2.cells {w : World} {g : Nat} {a b : Value} (h : Blk2 w g a b) : w.cell? ⟨g, 0, none⟩ = some a ∧ w.cell? ⟨g, 1, none⟩ = some b ∧ w.frozen? ⟨g, 0, none⟩ = false ∧ w.frozen? ⟨g, 1, none⟩ = false := blk2 h
/-- A whole number in new memory. -/
def NI (w : World) (B : Nat) (z : Int) (cs : List Value) : Prop := cI.M w B (fun _ => True) z cs
theorem NI.alloc {w : World} {B : Nat} {z : Int} {cs : List Value} (h : NI w B z cs) (o : Obj) : NI (w.alloc o) B z cs := Kd.M_below h (below1 w o)
theorem NI.drew {w : World} {B : Nat} {z : Int} {cs : List Value} (h : NI w B z cs) : NI w.drew B z cs := Kd.M_below h (below_drew (Below.refl _ _))
theorem NI.drewN {w : World} {B : Nat} {z : Int} {cs : List Value} (h : NI w B z cs) (n : Nat) : NI (w.drewN n) B z cs := Kd.M_below h (pw_below_drewN (Below.refl _ _) n)
theorem NI.below {w w1 : World} {B : Nat} {z : Int} {cs : List Value} (h : NI w B z cs) (hb : Below w.heap.size w w1) : NI w1 B z cs := Kd.M_below h hb
theorem NI.set {w : World} {B : Nat} {z : Int} {cs : List Value} (h : NI w B z cs) {g : Nat} (hg : ∃ a b, Blk2 w g a b) (j : Nat) (u : Value) : NI (w.setCell ⟨g, j, none⟩ u) B z cs := by
  obtain ⟨a, b, hg⟩ := hg
  exact cI.M_mono (fun _ _ => trivial) (Kd.M_far (p := ⟨g, j, none⟩) (Kd.M_types h hg (by intro q hq; have : q = 93 := by simpa [cI, dI, Kd.iso, Kd.pair, Kd.slice, Kd.bool, Kd.int, Kd.scalar] using hq
                                                                                          omega)) (fun k hk => hk.2) u)
theorem NI.lower {w : World} {B B' : Nat} {z : Int} {cs : List Value} (h : NI w B z cs) (hb : B' ≤ B) : NI w B' z cs := cI.M_lower hb h
theorem NI.ci {w : World} {B : Nat} {z : Int} {s : Bool} {A : Option Addr} {n c : Nat} (h : NI w B z [.bool s, .slice A n c]) : CI w s A n c z := cI_CI (cI.K_of_M h)
theorem RN.alloc {w : World} {A : Option Addr} {n c N : Nat} (h : RN w A n c N) (o : Obj) : RN (w.alloc o) A n c N := h.below (below1 w o)
theorem GI.alloc {w : World} {s : Bool} {A : Option Addr} {n c b : Nat} {z : Int} (h : GI w s A n c z b) (o : Obj) : GI (w.alloc o) s A n c z b := h.below (below1 w o)
theorem CI.alloc {w : World} {s : Bool} {A : Option Addr} {n c : Nat} {z : Int} (h : CI w s A n c z) (o : Obj) : CI (w.alloc o) s A n c z := h.below (below1 w o)
theorem CI.drew {w : World} {s : Bool} {A : Option Addr} {n c : Nat} {z : Int} (h : CI w s A n c z) : CI w.drew s A n c z := h.below (below_drew (Below.refl _ _))

end Go.Proofs.Ytaagioghkicdkaa
