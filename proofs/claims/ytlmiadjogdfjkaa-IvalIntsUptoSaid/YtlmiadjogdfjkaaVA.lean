/- A logic of calls: bits, quotients, sizes changed, copies, functions that are known otherwise. -/
import Derived.Test.YtlmiadjogdfjkaaT
import Derived.Laws.BitsAllLaws
import Derived.Laws.Bits64
set_option linter.unusedVariables false
set_option linter.unusedSimpArgs false
namespace Go.Proofs.Ytlmiadjogdfjkaa.V
open Go.RowKit Mt Nml

theorem or_u64 (i : Nat) {x y : Int} (hx0 : 0 ≤ x) (hx1 : x < 18446744073709551616) (hx : x % 2 ^ i = 0) (hy0 : 0 ≤ y) (hy1 : y < 2 ^ i) (hy2 : y < 18446744073709551616) : bits .or .u64 x y = x + y := by
  obtain ⟨a, rfl⟩ := Int.eq_ofNat_of_zero_le hx0
  obtain ⟨b, rfl⟩ := Int.eq_ofNat_of_zero_le hy0
  rw [u64_or_nat a b (by omega) (by omega)]
  have hb : b < 2 ^ i := by exact_mod_cast hy1
  have ha : a % 2 ^ i = 0 := by exact_mod_cast hx
  have e : a = 2 ^ i * (a / 2 ^ i) := by have := Nat.mod_add_div a (2 ^ i); omega
  have := Nat.two_pow_add_eq_or_of_lt hb (a / 2 ^ i)
  rw [← e] at this
  rw [← this]
  simp
theorem or_u64_swap {x y : Int} (hx0 : 0 ≤ x) (hx1 : x < 18446744073709551616) (hy0 : 0 ≤ y) (hy1 : y < 18446744073709551616) : bits .or .u64 x y = bits .or .u64 y x := by
  obtain ⟨a, rfl⟩ := Int.eq_ofNat_of_zero_le hx0
  obtain ⟨b, rfl⟩ := Int.eq_ofNat_of_zero_le hy0
  rw [u64_or_nat a b (by omega) (by omega), u64_or_nat b a (by omega) (by omega), Nat.or_comm]
theorem or_u32_swap {x y : Int} (hx0 : 0 ≤ x) (hx1 : x < 4294967296) (hy0 : 0 ≤ y) (hy1 : y < 4294967296) : bits .or .u32 x y = bits .or .u32 y x := by
  obtain ⟨a, rfl⟩ := Int.eq_ofNat_of_zero_le hx0
  obtain ⟨b, rfl⟩ := Int.eq_ofNat_of_zero_le hy0
  rw [u32_or_nat a b (by omega) (by omega), u32_or_nat b a (by omega) (by omega), Nat.or_comm]
theorem or_u32 (i : Nat) {x y : Int} (hx0 : 0 ≤ x) (hx1 : x < 4294967296) (hx : x % 2 ^ i = 0) (hy0 : 0 ≤ y) (hy1 : y < 2 ^ i) (hy2 : y < 4294967296) : bits .or .u32 x y = x + y := by
  obtain ⟨a, rfl⟩ := Int.eq_ofNat_of_zero_le hx0
  obtain ⟨b, rfl⟩ := Int.eq_ofNat_of_zero_le hy0
  rw [u32_or_nat a b (by omega) (by omega)]
  have hb : b < 2 ^ i := by exact_mod_cast hy1
  have ha : a % 2 ^ i = 0 := by exact_mod_cast hx
  have e : a = 2 ^ i * (a / 2 ^ i) := by have := Nat.mod_add_div a (2 ^ i); omega
  have := Nat.two_pow_add_eq_or_of_lt hb (a / 2 ^ i)
  rw [← e] at this
  rw [← this]
  simp


section
variable {P : Program} {ops : Array Oper} {fin : List OpS → List (Nat × T) → List (Nat × Option Ent) → Prop} {r : List Oper} {H : List OpS} {g : List (Nat × T)} {E : List (Nat × Option Ent)} {o : Oper}
variable {t : Option Nat} {ty : TypeId} {ps : String} {af : Array Edge} {gd : Option (Nat × Bool)} {x y : Operand} {X Y : T} {e off m : Nat} {b : Bool} {l l' : List T} {et : TypeId}
variable {α : Type} {c : Cod α} {xs ys : List α}
theorem qo {t1 t2 : TypeId} {kk k2 : IntKind} {a d lo hi : Int} (z : Int) (hX : envl g x = some (T.c (.int kk a))) (hY : envl g y = some (T.c (.int k2 d))) (hk : rgK kk = some (lo, hi)) (hz : a / d = z ∧ 0 ≤ a ∧ a ≤ hi ∧ 1 ≤ d) (hn : J P ops fin r (OpS.p (T.c (.int kk z)) :: H) (putg t (T.c (.int kk z)) g) E) (hg : GuardIs ops g ⟨t, .binOp .quo t1 x y t2, ty, ps, af, gd⟩ true := by exact gd0) (hkk : kk = k2 := by rfl) : J P ops fin (⟨t, .binOp .quo t1 x y t2, ty, ps, af, gd⟩ :: r) H g E :=
  bop hX hY (fun ρ w h1 h2 => by 
    subst hkk
    have hd : d ≠ 0 := by omega
    have h0 : 0 ≤ a / d := Int.ediv_nonneg hz.2.1 (by omega)
    have h3 : a / d ≤ a := Int.ediv_le_self _ hz.2.1
    have hlo : lo ≤ 0 := by cases kk <;> cases hk <;> omega
    simp [execOp, h1, h2, eqGuard, binOp, Op.intDiv, hd]
    rw [Int.tdiv_eq_ediv_of_nonneg hz.2.1, ← hz.1, rgK_wrap hk ⟨by omega, by omega⟩]) hn hg
theorem re {t1 t2 : TypeId} {kk k2 : IntKind} {a d : Int} (z : Int) (hX : envl g x = some (T.c (.int kk a))) (hY : envl g y = some (T.c (.int k2 d))) (hz : a % d = z ∧ 0 ≤ a ∧ d ≠ 0) (hn : J P ops fin r (OpS.p (T.c (.int kk z)) :: H) (putg t (T.c (.int kk z)) g) E) (hg : GuardIs ops g ⟨t, .binOp .rem t1 x y t2, ty, ps, af, gd⟩ true := by exact gd0) (hkk : kk = k2 := by rfl) : J P ops fin (⟨t, .binOp .rem t1 x y t2, ty, ps, af, gd⟩ :: r) H g E :=
  bop hX hY (fun ρ w h1 h2 => by 
    subst hkk
    have hd := hz.2.2
    simp [execOp, h1, h2, eqGuard, binOp, Op.intDiv, hd]
    rw [Int.tmod_eq_emod_of_nonneg hz.2.1, hz.1]) hn hg
theorem shL {t1 t2 : TypeId} {kk k2 : IntKind} {a d lo hi : Int} {s : Nat} (z : Int) (hX : envl g x = some (T.c (.int kk a))) (hY : envl g y = some (T.c (.int k2 d))) (hd : d = (s : Int)) (hk : rgK kk = some (lo, hi)) (hz : a * 2 ^ s = z ∧ lo ≤ z ∧ z ≤ hi ∧ s ≤ kk.bits) (hn : J P ops fin r (OpS.p (T.c (.int kk z)) :: H) (putg t (T.c (.int kk z)) g) E) (hg : GuardIs ops g ⟨t, .binOp .shl t1 x y t2, ty, ps, af, gd⟩ true := by exact gd0) : J P ops fin (⟨t, .binOp .shl t1 x y t2, ty, ps, af, gd⟩ :: r) H g E :=
  bop hX hY (fun ρ w h1 h2 => by 
    subst hd
    have hd0 : ¬ ((s : Int) < 0) := by omega
    simp [execOp, h1, h2, eqGuard, binOp, Op.shift, hd0]
    rw [Nat.min_eq_left hz.2.2.2, hz.1, rgK_wrap hk ⟨hz.2.1, hz.2.2.1⟩]) hn hg
theorem shR {t1 t2 : TypeId} {kk k2 : IntKind} {a d : Int} {s : Nat} (z : Int) (hX : envl g x = some (T.c (.int kk a))) (hY : envl g y = some (T.c (.int k2 d))) (hd : d = (s : Int)) (hz : a / 2 ^ s = z ∧ 0 ≤ a ∧ s ≤ kk.bits) (hn : J P ops fin r (OpS.p (T.c (.int kk z)) :: H) (putg t (T.c (.int kk z)) g) E) (hg : GuardIs ops g ⟨t, .binOp .shr t1 x y t2, ty, ps, af, gd⟩ true := by exact gd0) : J P ops fin (⟨t, .binOp .shr t1 x y t2, ty, ps, af, gd⟩ :: r) H g E :=
  bop hX hY (fun ρ w h1 h2 => by 
    subst hd
    have hd0 : ¬ ((s : Int) < 0) := by omega
    simp [execOp, h1, h2, eqGuard, binOp, Op.shift, hd0]
    rw [Nat.min_eq_left hz.2.2, Int.fdiv_eq_ediv_of_nonneg _ (Int.le_of_lt (Int.pow_pos (by omega))), hz.1]) hn hg
theorem orr {t1 t2 : TypeId} {kk k2 : IntKind} {a d : Int} (z : Int) (hX : envl g x = some (T.c (.int kk a))) (hY : envl g y = some (T.c (.int k2 d))) (hz : bits .or kk a d = z) (hn : J P ops fin r (OpS.p (T.c (.int kk z)) :: H) (putg t (T.c (.int kk z)) g) E) (hg : GuardIs ops g ⟨t, .binOp .or t1 x y t2, ty, ps, af, gd⟩ true := by exact gd0) (hkk : kk = k2 := by rfl) : J P ops fin (⟨t, .binOp .or t1 x y t2, ty, ps, af, gd⟩ :: r) H g E :=
  bop hX hY (fun ρ w h1 h2 => by 
    subst hkk
    rw [← hz]
    simp [execOp, h1, h2, eqGuard, binOp, Op.intBits, bits]) hn hg
theorem sbm {t1 t2 : TypeId} {kk k2 : IntKind} {a d : Int} (z : Int) (hX : envl g x = some (T.c (.int kk a))) (hY : envl g y = some (T.c (.int k2 d))) (hkk : kk = .u64 ∧ k2 = .u64) (hz : (a - d) % 18446744073709551616 = z) (hn : J P ops fin r (OpS.p (T.c (.int kk z)) :: H) (putg t (T.c (.int kk z)) g) E) (hg : GuardIs ops g ⟨t, .binOp .sub t1 x y t2, ty, ps, af, gd⟩ true := by exact gd0) : J P ops fin (⟨t, .binOp .sub t1 x y t2, ty, ps, af, gd⟩ :: r) H g E :=
  bop hX hY (fun ρ w h1 h2 => by 
    obtain ⟨rfl, rfl⟩ := hkk
    simp [execOp, h1, h2, eqGuard, binOp, Op.intArith, IntKind.wrap_u64, hz]) hn hg
theorem run_convert {src dst : TypeId} {k1 k2 : IntKind} {a : Int} {w : World} (h1 : (P.underlying src).isSome = true) (h2 : P.underlying dst = some (.int k2)) : (convert src dst (.int k1 a)).run P w = .ok (.int k2 (k2.wrap a)) w := by
  obtain ⟨d, hd⟩ := Option.isSome_iff_exists.1 h1
  simp [convert, run_underlying hd, run_underlying h2, Conv.intToInt]
/-- Types of whole numbers that are turned into one another. -/
def Cv (P : Program) (src dst : TypeId) (k2 : IntKind) : Prop := (P.underlying src).isSome = true ∧ P.underlying dst = some (.int k2)
theorem cvt {src dst : TypeId} {k1 k2 : IntKind} {a lo hi : Int} (z : Int) (hX : envl g x = some (T.c (.int k1 a))) (hc : Cv P src dst k2) (hk : rgK k2 = some (lo, hi)) (hz : a = z ∧ lo ≤ z ∧ z ≤ hi) (hn : J P ops fin r (OpS.p (T.c (.int k2 z)) :: H) (putg t (T.c (.int k2 z)) g) E) (hg : GuardIs ops g ⟨t, .convert src dst x, ty, ps, af, gd⟩ true := by exact gd0) : J P ops fin (⟨t, .convert src dst x, ty, ps, af, gd⟩ :: r) H g E :=
  j_val hg (ok_pure fun ρ β u w F hs he hH => ⟨.int k2 z, by
    have h1 : ρ x = .int k1 a := he x (by simp [Op.operands]) _ hX
    simp only [execOp, h1, Sem.run_bind, run_convert hc.1 hc.2, Result.andThen_ok, Sem.run_pure]
    rw [hz.1, rgK_wrap hk hz.2], rfl⟩) hn
theorem cvm {src dst : TypeId} {k1 : IntKind} {a : Int} (z : Int) (hX : envl g x = some (T.c (.int k1 a))) (hc : Cv P src dst .u32) (hz : a % 4294967296 = z) (hn : J P ops fin r (OpS.p (T.c (.int .u32 z)) :: H) (putg t (T.c (.int .u32 z)) g) E) (hg : GuardIs ops g ⟨t, .convert src dst x, ty, ps, af, gd⟩ true := by exact gd0) : J P ops fin (⟨t, .convert src dst x, ty, ps, af, gd⟩ :: r) H g E :=
  j_val hg (ok_pure fun ρ β u w F hs he hH => ⟨.int .u32 z, by
    have h1 : ρ x = .int k1 a := he x (by simp [Op.operands]) _ hX
    simp only [execOp, h1, Sem.run_bind, run_convert hc.1 hc.2, Result.andThen_ok, Sem.run_pure]
    rw [show IntKind.u32.wrap a = a % 4294967296 from by simp [IntKind.wrap, IntKind.bits, IntKind.signed], hz], rfl⟩) hn
/-- max, min of two whole numbers. -/
theorem mxb {kk : IntKind} {a d : Int} {tys : Array TypeId} (z : Int) (hX : envl g x = some (T.c (.int kk a))) (hY : envl g y = some (T.c (.int kk d))) (hz : max a d = z) (hn : J P ops fin r (OpS.p (T.c (.int kk z)) :: H) (putg t (T.c (.int kk z)) g) E) (hg : GuardIs ops g ⟨t, .call ⟨.builtin .max, #[x, y], tys⟩, ty, ps, af, gd⟩ true := by exact gd0) : J P ops fin (⟨t, .call ⟨.builtin .max, #[x, y], tys⟩, ty, ps, af, gd⟩ :: r) H g E :=
  j_val hg (ok_pure fun ρ β u w F hs he hH => ⟨.int kk z, by
    have h1 : ρ x = .int kk a := he x (by simp [Op.operands, Call.operands]) _ hX
    have h2 : ρ y = .int kk d := he y (by simp [Op.operands, Call.operands]) _ hY
    have e : (if d > a then d else a) = z := by rw [← hz]; split <;> omega
    simp [execOp, resolve, invoke, builtin, h1, h2, Builtin.max_, Builtin.max2, e], rfl⟩) hn
theorem mnb {kk : IntKind} {a d : Int} {tys : Array TypeId} (z : Int) (hX : envl g x = some (T.c (.int kk a))) (hY : envl g y = some (T.c (.int kk d))) (hz : min a d = z) (hn : J P ops fin r (OpS.p (T.c (.int kk z)) :: H) (putg t (T.c (.int kk z)) g) E) (hg : GuardIs ops g ⟨t, .call ⟨.builtin .min, #[x, y], tys⟩, ty, ps, af, gd⟩ true := by exact gd0) : J P ops fin (⟨t, .call ⟨.builtin .min, #[x, y], tys⟩, ty, ps, af, gd⟩ :: r) H g E :=
  j_val hg (ok_pure fun ρ β u w F hs he hH => ⟨.int kk z, by
    have h1 : ρ x = .int kk a := he x (by simp [Op.operands, Call.operands]) _ hX
    have h2 : ρ y = .int kk d := he y (by simp [Op.operands, Call.operands]) _ hY
    have e : (if d < a then d else a) = z := by rw [← hz]; split <;> omega
    simp [execOp, resolve, invoke, builtin, h1, h2, Builtin.min_, Builtin.min2, e], rfl⟩) hn
/-- copy into a row of one's own that is no longer. -/
theorem cpy {τ : TypeId} {bytes : Nat} [hl : IsL Y c ys] (hX : envl g x = some (T.o e)) (hE : lkE E e = some (Ent.row c τ xs)) (hY : envl g y = some Y) (hT : SlT P et τ c.sz bytes) (hle : xs.length ≤ ys.length) (hn : J P ops fin r (⟨[], [e], [(e, Ent.row c τ (ys.take xs.length))], [], T.c (.int .i64 (xs.length : Int))⟩ :: H) (putg t (T.c (.int .i64 (xs.length : Int))) g) ((e, some (Ent.row c τ (ys.take xs.length))) :: E)) (hg : GuardIs ops g ⟨t, .call ⟨.builtin .copy, #[x, y], #[et, et]⟩, ty, ps, af, gd⟩ true := by exact gd0) : J P ops fin (⟨t, .call ⟨.builtin .copy, #[x, y], #[et, et]⟩, ty, ps, af, gd⟩ :: r) H g E :=
  j_set hE hg (fun ρ β u w F hs he hH => by
    obtain ⟨h1, A, n, k, h2⟩ := he x (by simp [Op.operands, Call.operands]) _ hX
    obtain ⟨B, m, q, ey, hm, hmq, hq, hcell⟩ := hl.le _ _ _ (he y (by simp [Op.operands, Call.operands]) _ hY)
    obtain ⟨ht, inf, z, hi, hz0, hz1, hz2, hzc⟩ := hT.info
    obtain ⟨zs, k1, k2, k3⟩ := hH.hold e _ lk1_same
    have hlz := k2.len
    have hmin : Nat.min m xs.length = xs.length := Nat.min_eq_right (by omega)
    rcases k1.2 with ⟨ev, hn0⟩ | ⟨p, cap, cur, ev, hg0, hh, hc1, hc2, hc3, hc4⟩
    · have hxs : xs = [] := List.eq_nil_of_length_eq_zero hn0
      subst hxs
      have hx : ρ x = .slice none 0 0 := by rw [h1, ev]
      have hr : (Builtin.copy_ #[et, et] ty #[.slice none 0 0, .slice B m q]).run P w = .ok (.int .i64 0) w := by
        have hm0 : Nat.min m 0 = 0 := Nat.min_eq_right (Nat.zero_le _)
        cases B <;> simp [Builtin.copy_, run_underlying ht, sizeOf, typeInfo, hi, Builtin.lenOf, Builtin.firstCells, goInt, hm0, loadCells, loadCellsFrom]
      unfold Res
      simp only [execOp, resolve, invoke, builtin, Sem.run_bind, Sem.run_pure, Result.andThen_ok, List.map_toArray, List.map_cons, List.map_nil, hx, ey, hr]
      exact ⟨u, β, F, fun _ _ => rfl, Tr.refl hs, by simpa using hH, fun f Z k h hk => .inl ⟨e, List.mem_cons_self, by obtain ⟨rfl, _⟩ := lk1 h; exact hk⟩, rfl⟩
    · have hx : ρ x = .slice (some ⟨p, 0, none⟩) xs.length cap := by rw [h1, ev]
      have hcap : xs.length * c.sz ≤ cur.size := by rw [hc3]; exact Nat.mul_le_mul_right _ hc1
      obtain ⟨vs, hvs, hvl, hload⟩ : ∃ vs, Els c (ys.take xs.length) u vs ∧ vs.length = xs.length * c.sz ∧ (Builtin.firstCells c.sz xs.length (.slice B m q)).run P w = .ok vs.toArray w := by
        rcases Nat.eq_zero_or_pos xs.length with h0 | h0
        · refine ⟨[], by rw [h0, List.take_zero]; rfl, by rw [h0]; simp, ?_⟩
          rw [h0]
          cases B <;> simp [Builtin.firstCells, loadCells, loadCellsFrom]
        · obtain ⟨ad, rfl, vs, hE', hst⟩ := hcell (by omega)
          have hlv := hE'.len
          have hle2 : xs.length * c.sz ≤ vs.length := by rw [hlv]; exact Nat.mul_le_mul_right _ hle
          refine ⟨vs.take (xs.length * c.sz), Els.take _ hE' hle, by rw [List.length_take]; omega, ?_⟩
          have := run_loadCells_list (P := P) w ad (vs.take (xs.length * c.sz)) (fun j v hv => by
            rw [List.getElem?_take] at hv
            split at hv
            · exact hs _ _ (hst j v hv)
            · cases hv)
          rw [List.length_take, Nat.min_eq_left hle2] at this
          simp [Builtin.firstCells, this]
      have hst := run_storeCells_at P p 0 τ vs 0 cur w hh (by omega) hvs.one
      have hr : (Builtin.copy_ #[et, et] ty #[.slice (some ⟨p, 0, none⟩) xs.length cap, .slice B m q]).run P w = .ok (.int .i64 (xs.length : Int)) (w.setRow p (vs ++ cur.toList.drop vs.length).toArray) := by
        have hst' : (storeCells ⟨p, 0, none⟩ vs).run P w = .ok () (w.setRow p (vs ++ cur.toList.drop vs.length).toArray) := by simpa using hst
        simp [Builtin.copy_, run_underlying ht, sizeOf, typeInfo, hi, hz1, Builtin.lenOf, hmin, hload, hst', goInt]
      have hpF : F e p := (k3 p).2 (by rw [ev]; rfl)
      have hd := (hH.dead e _ p lk1_same hpF).1
      unfold Res
      simp only [execOp, resolve, invoke, builtin, Sem.run_bind, Sem.run_pure, Result.andThen_ok, List.map_toArray, List.map_cons, List.map_nil, hx, ey, hr]
      refine ⟨u, β, F, fun _ _ => rfl, tr_setRow hs ⟨e, List.mem_cons_self, hpF⟩ hd, hold1 ⟨vs, ?_, hvs, k3⟩ (fun k hk => ?_), fun f Z k h hk => .inl ⟨e, List.mem_cons_self, ?_⟩, rfl⟩
      · have hlt : (ys.take xs.length).length = xs.length := by rw [List.length_take]; omega
        rw [hlt, ev]
        refine ⟨hvl, .inr ⟨p, cap, _, rfl, Nat.zero_le _, setRow_heap _ _ _ _ _ _ hh, hc1, hc2, ?_, ?_⟩⟩
        · simp only [List.size_toArray, List.length_append, List.length_drop, Array.length_toList]; omega
        · rw [← hvl]
          exact List.take_left' rfl
      · obtain ⟨m1, m2⟩ := hH.dead e _ k lk1_same hk
        exact ⟨m1, by simpa using m2⟩
      · obtain ⟨rfl, _⟩ := lk1 h; exact hk) hn
end
/-- A function that is known to answer so, and to leave the world as it was. -/
theorem fn_calls {P : Program} {f : FuncId} {args : List Value} {v : Value} (h : ∀ w, Calls P f args.toArray w fun e w' => e = .returned v ∧ w' = w) : Fn P f (args.map T.c) [] [] [] (T.c v) := fun vs β u w F hs hr hH => by
  have e : vs = args := by
    clear h hH
    induction args generalizing vs with
    | nil => cases vs with
      | nil => rfl
      | cons _ _ => exact hr.elim
    | cons a r ih => cases vs with
      | nil => exact hr.elim
      | cons b s => rw [ih s hr.2, show b = a from hr.1]
  subst e
  exact (h w).mono fun e w' ⟨he, hw⟩ => ⟨v, he, by subst hw; exact after_pure hs rfl⟩
theorem cvU32U64 : Cv Try.prog 77 48 .u64 := ⟨by kernel_rfl, by kernel_rfl⟩
theorem cvU64U32 : Cv Try.prog 48 77 .u32 := ⟨by kernel_rfl, by kernel_rfl⟩
theorem cvIU : Cv Try.prog 3 70 .u64 := ⟨by kernel_rfl, by kernel_rfl⟩
theorem cvI64I : Cv Try.prog 2 3 .i64 := ⟨by kernel_rfl, by kernel_rfl⟩
theorem cvII64 : Cv Try.prog 3 2 .i64 := ⟨by kernel_rfl, by kernel_rfl⟩
theorem cvI64U64 : Cv Try.prog 2 48 .u64 := ⟨by kernel_rfl, by kernel_rfl⟩
theorem cvU64I64 : Cv Try.prog 48 2 .i64 := ⟨by kernel_rfl, by kernel_rfl⟩
theorem cvU64I : Cv Try.prog 48 3 .i64 := ⟨by kernel_rfl, by kernel_rfl⟩
theorem cvEI : Cv Try.prog 34 3 .i64 := ⟨by kernel_rfl, by kernel_rfl⟩
end Go.Proofs.Ytlmiadjogdfjkaa.V
