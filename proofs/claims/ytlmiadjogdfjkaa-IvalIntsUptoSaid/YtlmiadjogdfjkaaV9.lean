/- A logic of calls: boxes of structs, calls with what arguments are told to be, slices cut and copied, more of the machine's numbers. -/
import Derived.Test.YtlmiadjogdfjkaaV8
set_option linter.unusedVariables false
set_option linter.unusedSimpArgs false
namespace Go.Proofs.Ytlmiadjogdfjkaa.V
open Go.RowKit Mt Nml

def putL (l : List T) (off : Nat) (ys : List T) : Option (List T) := match takeC l off, skip l (off + szs ys) with
  | some a, some b => some (a ++ (ys ++ b))
  | _, _ => none
theorem Cells.append {β : Env} {u : World} : ∀ {l l' : List T} {cs cs' : List Value}, Cells β u l cs → Cells β u l' cs' → Cells β u (l ++ l') (cs ++ cs')
  | [], l', cs, cs', h, k => by rw [show cs = [] from h]; exact k
  | X :: r, l', cs, cs', ⟨v, rest, h0, h1, e, h2⟩, k => ⟨v, rest ++ cs', h0, h1, by rw [e, List.append_assoc], Cells.append h2 k⟩
section
variable {P : Program} {ops : Array Oper} {fin : List OpS → List (Nat × T) → List (Nat × Option Ent) → Prop} {r : List Oper} {H : List OpS} {g : List (Nat × T)} {E : List (Nat × Option Ent)} {o : Oper}
variable {t : Option Nat} {ty : TypeId} {ps : String} {af : Array Edge} {gd : Option (Nat × Bool)} {x y : Operand} {X Y : T} {e off m : Nat} {b : Bool} {l l' : List T} {et : TypeId}
variable {α : Type} {c : Cod α} {xs ys : List α}
/-- A box with a struct, laid open. -/
theorem bxs (e : Nat) [hsp : Sp X l] (hX : envl g x = some X) (hn : J P ops fin r (⟨[], [], [(e, Ent.box et l)], [e], T.p e 0⟩ :: H) (putg t (T.p e 0) g) ((e, some (Ent.box et l)) :: E)) (he : (l.flatMap (·.ns)).contains e = false := by rfl) (hg : GuardIs ops g ⟨t, .box et x, ty, ps, af, gd⟩ true := by exact gd0) : J P ops fin (⟨t, .box et x, ty, ps, af, gd⟩ :: r) H g E :=
  j_new hg (fun ρ β u w F hs hx hH => by
    obtain ⟨cs, h1, h2⟩ := hsp.le _ _ _ (hx x (by simp [Op.operands]) X hX)
    have := after_box (C := []) (F := F) (e := e) (ty := et) hs h2 he
    unfold Res
    have hb : (Instr.box et (ρ x)).run P w = .ok (pt w.heap.size 0) (w.alloc (.cells cs.toArray et (0, 0))) := by simp [Instr.box, newVar, newRow, h1, Value.cells]
    simp only [execOp, Sem.run_bind, hb, Result.andThen_ok, Sem.run_pure]
    exact this) hn
/-- A store of a struct into a box, laid open. -/
theorem sts {zz : List T} [hsp : Sp Y zz] (hX : envl g x = some (T.p e off)) (hY : envl g y = some Y) (hE : lkE E e = some (Ent.box et l)) {ty' : TypeId} (hT : Ty P ty' true m) (hl : putL l off zz = some l') (hn : J P ops fin r (⟨[], [e], [(e, Ent.box et l')], [], T.c undef⟩ :: H) (putg t (T.c undef) g) ((e, some (Ent.box et l')) :: E)) (hm : szs zz = m := by rfl) (hg : GuardIs ops g ⟨t, .store ty' x y, ty, ps, af, gd⟩ true := by exact gd0) : J P ops fin (⟨t, .store ty' x y, ty, ps, af, gd⟩ :: r) H g E :=
  j_set hE hg (fun ρ β u w F hs he hH => by
    obtain ⟨p, k1, k2⟩ := he x (by simp [Op.operands]) _ hX
    obtain ⟨vs, hv, hy⟩ := hsp.le _ _ _ (he y (by simp [Op.operands]) _ hY)
    obtain ⟨p', cs, q1, q2, q3, q4⟩ := hH.hold e _ lk1_same
    have hpp : p' = p := by rw [k1] at q1; cases q1; rfl
    subst hpp
    unfold putL at hl
    split at hl
    · rename_i a b' ha hb'
      cases hl
      obtain ⟨c1, c2⟩ := q4.take ha
      obtain ⟨c3, c4⟩ := q4.skip hb'
      obtain ⟨f1, f2⟩ := hy.flat
      have hf : Flat (ρ y) m := by rw [hv]; exact ⟨by simpa [Value.cells, hm] using f1, by simpa [Value.cells] using f2⟩
      have hd := (hH.dead e _ p' lk1_same ((q2 p').2 rfl)).1
      have hle : off + m ≤ cs.length := by omega
      unfold Res
      simp only [execOp, k2, Sem.run_bind, run_store q3 hT hf hle, Result.andThen_ok, Sem.run_pure]
      refine ⟨u, β, F, fun _ _ => rfl, tr_setRow hs ⟨e, List.mem_cons_self, (q2 p').2 rfl⟩ hd, hold1 ⟨p', _, q1, q2, setRow_heap _ _ _ _ _ _ q3, ?_⟩ (fun k hk => ?_), fun f Z k h hk => .inl ⟨e, List.mem_cons_self, ?_⟩, rfl⟩
      · have : patch cs off (ρ y).cells.toList = cs.take off ++ (vs ++ cs.drop (off + szs zz)) := by
          unfold patch
          rw [hv]
          simp only [Value.cells, f1, List.append_assoc]
        rw [this]
        exact c2.append (hy.append c4)
      · rw [(q2 k).1 hk]; exact ⟨hd, by simpa using heap_lt q3⟩
      · obtain ⟨rfl, _⟩ := lk1 h; exact hk
    · cases hl) hn
/-- A call of a function; the arguments are what it asks for. -/
theorem ca {f : FuncId} {zs : Array Operand} {tys : Array TypeId} {As Bs : List T} (hA : envs g zs.toList = some As)
    (hl : LeL As Bs := by repeat (first | exact trivial | refine ⟨?_, ?_⟩ | exact T.le.refl _ | exact IsZ.le | exact IsL2.le | exact IsL.le | exact q_le _ _ | exact l_L (by assumption) (by assumption) (by assumption) | assumption))
    (h : Fn P f Bs [] [] [] X) (hn : J P ops fin r (OpS.p X :: H) (putg t X g) E) (hen : Enters P f := by intro a w; kernel_rfl)
    (hg : GuardIs ops g ⟨t, .call ⟨.value (.func f), zs, tys⟩, ty, ps, af, gd⟩ true := by exact gd0) : J P ops fin (⟨t, .call ⟨.value (.func f), zs, tys⟩, ty, ps, af, gd⟩ :: r) H g E :=
  cl hA (fn_le h hl) hn hen hg
/-- append to nothing: a new row. -/
theorem apn {τ : TypeId} {bytes : Nat} (e' : Nat) [hl : IsL Y c ys] (hX : envl g x = some (T.c (.slice none 0 0))) (hY : envl g y = some Y) (hT : SlT P et τ c.sz bytes) (hb : ys.length * bytes ≤ 140737488355328) (h0 : 0 < bytes)
    (hn : J P ops fin r (⟨[], [], [(e', Ent.row c τ ys)], [e'], T.o e'⟩ :: H) (putg t (T.o e') g) ((e', some (Ent.row c τ ys)) :: E)) (hg : GuardIs ops g ⟨t, .call ⟨.builtin .append, #[x, y], #[et, et]⟩, ty, ps, af, gd⟩ true := by exact gd0) : J P ops fin (⟨t, .call ⟨.builtin .append, #[x, y], #[et, et]⟩, ty, ps, af, gd⟩ :: r) H g E :=
  j_new hg (fun ρ β u w F hs he hH => by
    have h1 : ρ x = .slice none 0 0 := he x (by simp [Op.operands, Call.operands]) _ hX
    have hy := (T.l c ys).ext (β' := B0) (fun _ h => by cases h) (hl.le _ _ _ (he y (by simp [Op.operands, Call.operands]) _ hY))
    obtain ⟨v', w', hr, ho, hgw, hv, hsl⟩ := run_append (c := c) (l := ([] : List α)) (xs := []) (ty := ty) (u := u) (w := w) hT (World.ownsRow_nil _ _ _ _) rfl hy hs (by simpa using hb) h0
    rw [← h1] at hr
    unfold Res
    simp only [execOp, resolve, invoke, builtin, Sem.run_bind, Sem.run_pure, Result.andThen_ok, List.map_toArray, List.map_cons, List.map_nil, hr]
    exact after_newrow hs hgw ho hv hsl) hn
/-- A struct's or another result in a box. -/
theorem rv_cell {c' : Ctx} {n : Nat} {a : Nat} {ty' : TypeId} (ha : lk g a = some (T.p e 0)) (hE : lkE E e = some (Ent.box et l)) (hT : Ty P ty' b m) (hF : fieldT b l 0 m = some X) (h1 : (b || m == 1) = true := by rfl) : RV P g E (.cell a ty') X := fun β u w F tmps hs ht hH => by
  obtain ⟨v, k1, p, k2, k3⟩ := ht a _ ha
  obtain ⟨p', cs, q1, q2, q3, q4⟩ := hH.hold e _ hE
  have hpp : p' = p := by rw [k2] at q1; cases q1; rfl
  subst hpp
  obtain ⟨c1, c2⟩ := q4.field hF
  have hlen : ((cs.drop 0).take m).length = m := by rw [List.length_take, List.length_drop]; omega
  have := run_loadAt (P := P) (w := w) (ad := ⟨p', 0, none⟩) (vs := (cs.drop 0).take m) (by rw [hlen]; exact hT) (box_cells q3 m) (by rw [hlen]; exact ty_one hT h1)
  exact ⟨_, by simp [k1, k3, asAddr, this], c2⟩
/-- xs[lo:hi] of a slice that stands. -/
theorem run_cut {A : Option Addr} {n k lo hi : Nat} {kk kk' : IntKind} {τ : TypeId} {sz bytes : Nat} (hT : SlT P et τ sz bytes) (h1 : lo ≤ hi) (h2 : hi ≤ k) (w : World) : ∃ B, (Instr.sliceAt et (.slice A n k) (some (.int kk (lo : Int))) (some (.int kk' (hi : Int))) none).run P w = .ok (.slice B (hi - lo) (k - lo)) w ∧ (lo < k → B = A.map (·.add (lo * sz))) := by
  obtain ⟨ht, inf, z, hi', hz0, hz1, hz2, hzc⟩ := hT.info
  have a1 : (0 : Int) ≤ lo ∧ (lo : Int) ≤ hi := by omega
  have a2 : (0 : Int) ≤ hi ∧ (hi : Int) ≤ k := by omega
  refine ⟨if k = lo then A else A.map (·.add (lo * sz)), ?_, fun h => if_neg (by omega)⟩
  simp [Instr.sliceAt, Instr.slice, run_underlying ht, Instr.sliceBounds, Instr.sliceBound, asIntOf, a1, a2, h1, h2, sizeOf, typeInfo, hi', hz1]
theorem cut_rep {A B : Option Addr} {n k lo hi : Nat} {u : World} (h : (T.l c xs).rep B0 u (.slice A n k)) (h1 : lo ≤ hi) (h2 : hi ≤ xs.length) (hB : lo < k → B = A.map (·.add (lo * c.sz))) : (T.l c ((xs.take hi).drop lo)).rep B0 u (.slice B (hi - lo) (k - lo)) := by
  obtain ⟨A', n', k', e, e1, e2, e3, e4⟩ := h
  cases e
  refine ⟨_, _, _, rfl, by simp; omega, by omega, by omega, fun hp => ?_⟩
  obtain ⟨ad, rfl, zs, hE, hst⟩ := e4 (by omega)
  refine ⟨ad.add (lo * c.sz), hB (by omega), _, Els.drop lo (Els.take hi hE (by omega)) (by simp; omega), ?_⟩
  have hlen := hE.len
  have := Nat.mul_le_mul_right c.sz h1
  have := Nat.mul_le_mul_right c.sz h2
  exact hst.at2 (p := zs.take (lo * c.sz)) (q := zs.drop (hi * c.sz)) (by
    rw [show zs.take (lo * c.sz) = (zs.take (hi * c.sz)).take (lo * c.sz) from by rw [List.take_take, Nat.min_eq_left (by omega)], List.take_append_drop, List.take_append_drop]) (by simp; omega)
theorem sc {lo hi : Nat} {zl' zh : Operand} {a b' : Int} {kk kk' : IntKind} {τ : TypeId} {bytes : Nat} [hl : IsI X c xs] (hX : envl g x = some X) (hT : SlT P et τ c.sz bytes) (hlo : envl g zl' = some (T.c (.int kk a))) (hhi : envl g zh = some (T.c (.int kk' b'))) (hh : a = (lo : Int) ∧ b' = (hi : Int) ∧ lo ≤ hi ∧ hi ≤ xs.length) (hn : J P ops fin r (OpS.p (T.l c ((xs.take hi).drop lo)) :: H) (putg t (T.l c ((xs.take hi).drop lo)) g) E) (hg : GuardIs ops g ⟨t, .slice et x (some zl') (some zh) none, ty, ps, af, gd⟩ true := by exact gd0) : J P ops fin (⟨t, .slice et x (some zl') (some zh) none, ty, ps, af, gd⟩ :: r) H g E :=
  j_val hg (ok_pure fun ρ β u w F hs he hH => by
    obtain ⟨rfl, rfl, h1, h2⟩ := hh
    have hx := (T.l c xs).ext (β' := B0) (fun _ h => by cases h) (hl.le _ _ _ (he x (by simp [Op.operands]) _ hX))
    have hy : ρ zl' = _ := he zl' (by simp [Op.operands]) _ hlo
    have hz : ρ zh = _ := he zh (by simp [Op.operands]) _ hhi
    obtain ⟨A, n, k, ev, e1, e2, e3, e4⟩ := id hx
    obtain ⟨B, q1, q2⟩ := run_cut (kk := kk) (kk' := kk') (A := A) (n := n) hT h1 (show hi ≤ k by omega) w
    rw [ev] at hx
    refine ⟨.slice B (hi - lo) (k - lo), by simp only [execOp, ev, hy, hz, Option.map_some, Option.map_none, Sem.run_bind, q1, Result.andThen_ok, Sem.run_pure], (T.l c _).ext (fun _ h => by cases h) (cut_rep hx h1 h2 q2)⟩) hn
/-- xs[:hi] of a slice that stands. -/
theorem sh {hi : Nat} {zh : Operand} {b' : Int} {kk' : IntKind} {τ : TypeId} {bytes : Nat} [hl : IsI X c xs] (hX : envl g x = some X) (hT : SlT P et τ c.sz bytes) (hhi : envl g zh = some (T.c (.int kk' b'))) (hh : b' = (hi : Int) ∧ hi ≤ xs.length) (hn : J P ops fin r (OpS.p (T.l c (xs.take hi)) :: H) (putg t (T.l c (xs.take hi)) g) E) (hg : GuardIs ops g ⟨t, .slice et x none (some zh) none, ty, ps, af, gd⟩ true := by exact gd0) : J P ops fin (⟨t, .slice et x none (some zh) none, ty, ps, af, gd⟩ :: r) H g E :=
  j_val hg (ok_pure fun ρ β u w F hs he hH => by
    obtain ⟨rfl, h2⟩ := hh
    have hx := (T.l c xs).ext (β' := B0) (fun _ h => by cases h) (hl.le _ _ _ (he x (by simp [Op.operands]) _ hX))
    have hz : ρ zh = _ := he zh (by simp [Op.operands]) _ hhi
    obtain ⟨A, n, k, ev, e1, e2, e3, e4⟩ := id hx
    obtain ⟨ht, inf, z, hi', hz0, hz1, hz2, hzc⟩ := hT.info
    have a2 : (0 : Int) ≤ hi ∧ (hi : Int) ≤ k := by omega
    have a3 : hi ≤ k := by omega
    rw [ev] at hx
    have := cut_rep (lo := 0) (B := A) hx (Nat.zero_le _) h2 (fun _ => by cases A <;> simp [Addr.add])
    refine ⟨.slice A hi k, ?_, (T.l c _).ext (fun _ h => by cases h) (by simpa using this)⟩
    have hA : (if k = 0 then A else A.map (·.add (0 * inf.size))) = A := by
      split
      · rfl
      · cases A <;> simp [Addr.add]
    simp [execOp, ev, hz, Instr.sliceAt, Instr.slice, run_underlying ht, Instr.sliceBounds, Instr.sliceBound, asIntOf, a2, a3, sizeOf, typeInfo, hi']
    cases A <;> simp [Addr.add]) hn
/-- xs[lo:] of a slice that stands. -/
theorem sr {lo : Nat} {zl' : Operand} {a : Int} {kk : IntKind} {τ : TypeId} {bytes : Nat} [hl : IsI X c xs] (hX : envl g x = some X) (hT : SlT P et τ c.sz bytes) (hlo : envl g zl' = some (T.c (.int kk a))) (hh : a = (lo : Int) ∧ lo ≤ xs.length) (hn : J P ops fin r (OpS.p (T.l c (xs.drop lo)) :: H) (putg t (T.l c (xs.drop lo)) g) E) (hg : GuardIs ops g ⟨t, .slice et x (some zl') none none, ty, ps, af, gd⟩ true := by exact gd0) : J P ops fin (⟨t, .slice et x (some zl') none none, ty, ps, af, gd⟩ :: r) H g E :=
  j_val hg (ok_pure fun ρ β u w F hs he hH => by
    obtain ⟨rfl, h1⟩ := hh
    have hx := (T.l c xs).ext (β' := B0) (fun _ h => by cases h) (hl.le _ _ _ (he x (by simp [Op.operands]) _ hX))
    have hy : ρ zl' = _ := he zl' (by simp [Op.operands]) _ hlo
    obtain ⟨A, n, k, ev, e1, e2, e3, e4⟩ := id hx
    obtain ⟨ht, inf, z, hi', hz0, hz1, hz2, hzc⟩ := hT.info
    have a1 : (0 : Int) ≤ lo ∧ (lo : Int) ≤ n := by omega
    have a3 : lo ≤ n := by omega
    rw [ev] at hx
    have := cut_rep (lo := lo) (hi := xs.length) (B := if k = lo then A else A.map (·.add (lo * c.sz))) hx h1 (Nat.le_refl _) (fun h => if_neg (by omega))
    refine ⟨_, ?_, (T.l c _).ext (fun _ h => by cases h) (by simpa using this)⟩
    simp [execOp, ev, hy, Instr.sliceAt, Instr.slice, run_underlying ht, Instr.sliceBounds, Instr.sliceBound, asIntOf, a1, a3, sizeOf, typeInfo, hi', hz1, e1]) hn
end
end Go.Proofs.Ytlmiadjogdfjkaa.V
