/- A logic of calls: methods as values, words, an array in a box. -/
import Derived.Test.YtekghdfbhbhigaaGreatDoorM04
set_option linter.unusedVariables false
set_option linter.unusedSimpArgs false
namespace Go.Proofs.YtekghdfbhbhigaaGreatDoor.V
open Go.RowKit
/-- A method of X as a value. -/
def T.mv (f : FuncId) (X : T) : T := ⟨X.ns, 1, false, fun β u v => ∃ r : Value, v = .func (.func f) #[r] #[] ∧ X.rep β u r, fun ⟨r, e, _⟩ _ => by subst e; exact ⟨⟨rfl, rfl⟩, rfl⟩, fun hs ⟨r, e, h⟩ => ⟨r, e, X.mono hs h⟩, fun hn ⟨r, e, h⟩ => ⟨r, e, X.ext hn h⟩⟩
/-- Cells of which nothing is told. -/
def T.parts : T := ⟨[], 52, true, fun _ _ v => ∃ cs : List Value, v = .agg cs.toArray ∧ cs.length = 52 ∧ cs.all Value.oneCell' = true, fun ⟨cs, e, h1, h2⟩ _ => by subst e; exact ⟨⟨by simpa [Value.cells] using h1, by simpa [Value.cells] using h2⟩, by simp [asVal, Value.cells]⟩, fun _ h => h, fun _ h => h⟩
theorem cells_split {β : Env} {u : World} : ∀ {A B : List T} {cs : List Value}, Cells β u (A ++ B) cs → ∃ c1 c2, cs = c1 ++ c2 ∧ Cells β u A c1 ∧ Cells β u B c2
  | [], B, cs, h => ⟨[], cs, rfl, rfl, h⟩
  | X :: A, B, cs, ⟨v, rest, h0, h1, e, h2⟩ => by
    obtain ⟨c1, c2, e2, h3, h4⟩ := cells_split (A := A) h2
    exact ⟨v.cells.toList ++ c1, c2, by rw [e, e2, List.append_assoc], ⟨v, c1, h0, h1, rfl, h3⟩, h4⟩
theorem box_parts {et : TypeId} {A C B : List T} (hC : szs C = 52) : (Ent.box et (A ++ (C ++ B))).le (Ent.box et (A ++ T.parts :: B)) := fun β u w v F ⟨b, cs, h1, h2, h3, h4⟩ => by
  obtain ⟨c1, c2, e1, k1, k2⟩ := cells_split h4
  obtain ⟨c3, c4, e2, k3, k4⟩ := cells_split k2
  obtain ⟨f1, f2⟩ := k3.flat
  have hp : Cells β u (T.parts :: B) c2 := ⟨.agg c3.toArray, c4, by show (52 : Nat) ≠ 0; decide, ⟨c3, rfl, by omega, f2⟩, by simpa [Value.cells] using e2, k4⟩
  exact ⟨b, cs, h1, h2, h3, by rw [e1]; exact Cells.append k1 hp⟩
section
variable {P : Program} {ops : Array Oper} {fin : List OpS → List (Nat × T) → List (Nat × Option Ent) → Prop} {r : List Oper} {H : List OpS} {g : List (Nat × T)} {E : List (Nat × Option Ent)} {o : Oper}
variable {t : Option Nat} {ty : TypeId} {ps : String} {af : Array Edge} {gd : Option (Nat × Bool)} {x y : Operand} {X Y : T} {e off m : Nat} {b : Bool} {l l' : List T} {et : TypeId}
theorem mfm {f : FuncId} (hX : envl g x = some X) (hn : J P ops fin r (OpS.p (T.mv f X) :: H) (putg t (T.mv f X) g) E) (hg : GuardIs ops g ⟨t, .makeFunc (.func f) #[x] #[], ty, ps, af, gd⟩ true := by exact gd0) : J P ops fin (⟨t, .makeFunc (.func f) #[x] #[], ty, ps, af, gd⟩ :: r) H g E :=
  j_val (X := T.mv f X) hg (ok_pure fun ρ β u w F hs he hH => ⟨.func (.func f) #[ρ x] #[], by simp [execOp, Instr.makeFunc], ρ x, rfl, he x (show x ∈ (#[x] ++ #[] : Array Operand) from by simp) _ hX⟩) hn
/-- A method that is a value is called. -/
theorem cfm {f : FuncId} {tys : Array TypeId} {Ei Eo : List (Nat × Ent)} {N : List Nat} (hX : envl g x = some (T.mv f Y)) (h : Fn P f [Y] Ei Eo N X) (hE : SubE (somes Ei) E) (hn : J P ops fin r (⟨[], Names Ei, Eo, N, X⟩ :: H) (putg t X g) (aftE Ei Eo E)) (hen : Enters P f := by intro a w; kernel_rfl)
    (hg : GuardIs ops g ⟨t, .call ⟨.value x, #[], tys⟩, ty, ps, af, gd⟩ true := by exact gd0) : J P ops fin (⟨t, .call ⟨.value x, #[], tys⟩, ty, ps, af, gd⟩ :: r) H g E :=
  j_ent hE hg (fun ρ β u w F hs he hH => by
    obtain ⟨rv, h1, h2⟩ := he x (show x ∈ (#[x] ++ #[] : Array Operand) from by simp) _ hX
    have := h [rv] β u w F hs ⟨h2, trivial⟩ hH
    unfold Res
    rw [show (execOp ρ ⟨t, .call ⟨.value x, #[], tys⟩, ty, ps, af, gd⟩).run P w = .ok (.enter f ([rv] : List Value).toArray) w from by
      simp only [execOp, resolve, h1, Deferred.ofValue, Sem.run_bind, Sem.run_pure, Result.andThen_ok, invoke, hen _ w]
      congr 2
      simp]
    exact this) hn
/-- Words compared. -/
theorem seq {t1 t2 : TypeId} {a b : ByteArray} {q : Bool} (hX : envl g x = some (T.c (.string a))) (hY : envl g y = some (T.c (.string b))) (hq : (a.toList == b.toList) = q) (hn : J P ops fin r (OpS.p (T.c (.bool q)) :: H) (putg t (T.c (.bool q)) g) E) (hg : GuardIs ops g ⟨t, .binOp .eql t1 x y t2, ty, ps, af, gd⟩ true := by exact gd0) (hu : P.underlying t1 = some .string := by kernel_rfl) : J P ops fin (⟨t, .binOp .eql t1 x y t2, ty, ps, af, gd⟩ :: r) H g E :=
  bop hX hY (fun ρ w h1 h2 => by simp [execOp, h1, h2, eqGuard, binOp, Op.stringOp, ← hq]) hn hg
/-- A place in an array. -/
theorem ixa {i k sz : Nat} {kk : IntKind} {z : Int} {el : TypeId} (hX : envl g x = some (T.p e off)) (hY : envl g y = some (T.c (.int kk z))) (hu : P.underlying et = some (.array k el)) (hs' : (P.info? el).map (·.size) = some sz) (hi : z = (i : Int) ∧ i < k) (hn : J P ops fin r (OpS.p (T.p e (off + i * sz)) :: H) (putg t (T.p e (off + i * sz)) g) E) (hg : GuardIs ops g ⟨t, .indexAddr et x y, ty, ps, af, gd⟩ true := by exact gd0) : J P ops fin (⟨t, .indexAddr et x y, ty, ps, af, gd⟩ :: r) H g E :=
  j_val hg (ok_pure fun ρ β u w F hs he hH => by
    obtain ⟨p, h1, h2⟩ := he x (by simp [Op.operands]) _ hX
    have hy : ρ y = .int kk (i : Int) := by rw [← hi.1]; exact he y (by simp [Op.operands]) _ hY
    obtain ⟨inf, hi1, hi2⟩ := Option.map_eq_some_iff.1 hs'
    have h0 : (0 : Int) ≤ (i : Int) := by omega
    have h3 : ((i : Int)) < (k : Int) := by omega
    refine ⟨pt p (off + i * sz), ?_, p, h1, rfl⟩
    simp [execOp, h2, hy, Instr.indexAt, asIntOf, run_underlying hu, Instr.sureAddr, h0, h3, sizeOf, typeInfo, hi1, hi2, pt, Addr.add]
    rw [if_pos hi.2]
    by_cases h9 : i * sz = 0 <;> simp [h9]) hn
/-- A store into an array of which nothing is told. -/
theorem sta {A B : List T} {i : Nat} {ty' : TypeId} (hX : envl g x = some (T.p e off)) (hY : envl g y = some Y) (hE : lkE E e = some (Ent.box et (A ++ T.parts :: B))) (hT : Ty P ty' b m) (ho : off = szs A + i ∧ i + m ≤ 52) (hn : J P ops fin r (⟨[], [e], [(e, Ent.box et (A ++ T.parts :: B))], [], T.c undef⟩ :: H) (putg t (T.c undef) g) ((e, some (Ent.box et (A ++ T.parts :: B))) :: E)) (hm : Y.sz = m := by rfl) (h0 : Nat.beq m 0 = false := by rfl) (hg : GuardIs ops g ⟨t, .store ty' x y, ty, ps, af, gd⟩ true := by exact gd0) : J P ops fin (⟨t, .store ty' x y, ty, ps, af, gd⟩ :: r) H g E :=
  j_set hE hg (fun ρ β u w F hs he hH => by
    obtain ⟨p, k1, k2⟩ := he x (by simp [Op.operands]) _ hX
    have hy := he y (by simp [Op.operands]) _ hY
    obtain ⟨p', cs, q1, q2, q3, q4⟩ := hH.hold e _ lk1_same
    have hpp : p' = p := by rw [k1] at q1; cases q1; rfl
    subst hpp
    have h0' : Y.sz ≠ 0 := by rw [hm]; intro e; subst e; cases h0
    obtain ⟨c1, c2, e1, a1, a2⟩ := cells_split q4
    obtain ⟨v2, c4, _, ⟨c3, rfl, f1, f2⟩, e2, a4⟩ := a2
    have hl1 := a1.flat.1
    have hf := (Y.shp hy h0').1
    rw [hm] at hf
    have e2' : c2 = c3 ++ c4 := by simpa [Value.cells] using e2
    subst e2' e1
    have hle : off + m ≤ (c1 ++ (c3 ++ c4)).length := by rw [List.length_append, List.length_append, hl1, f1]; omega
    have hd := (hH.dead e _ p' lk1_same ((q2 p').2 rfl)).1
    unfold Res
    simp only [execOp, k2, Sem.run_bind, run_store q3 hT hf hle, Result.andThen_ok, Sem.run_pure]
    refine ⟨u, β, F, fun _ _ => rfl, tr_setRow hs ⟨e, List.mem_cons_self, (q2 p').2 rfl⟩ hd, hold1 ⟨p', _, q1, q2, setRow_heap _ _ _ _ _ _ q3, ?_⟩ (fun k hk => ?_), fun f Z k h hk => .inl ⟨e, List.mem_cons_self, ?_⟩, rfl⟩
    · have : patch (c1 ++ (c3 ++ c4)) off (ρ y).cells.toList = c1 ++ ((c3.take i ++ (ρ y).cells.toList ++ c3.drop (i + m)) ++ c4) := by
        unfold patch
        rw [hf.1, ho.1, ← hl1, List.take_append, List.take_of_length_le (by omega), List.drop_append, List.drop_eq_nil_of_le (by omega)]
        rw [show c1.length + i - c1.length = i by omega, show c1.length + i + m - c1.length = i + m by omega, List.take_append_of_le_length (by omega), List.drop_append_of_le_length (by omega)]
        simp [List.append_assoc]
      rw [this]
      refine Cells.append a1 ⟨.agg (c3.take i ++ (ρ y).cells.toList ++ c3.drop (i + m)).toArray, c4, by show (52 : Nat) ≠ 0; decide, ⟨_, rfl, ?_, ?_⟩, by simp [Value.cells], a4⟩
      · rw [List.length_append, List.length_append, List.length_take, List.length_drop, hf.1, f1]; omega
      · rw [List.all_append, List.all_append, hf.2]
        simp only [Bool.and_eq_true, Bool.and_true]
        exact ⟨List.all_eq_true.2 fun z hz => List.all_eq_true.1 f2 z (List.mem_of_mem_take hz), List.all_eq_true.2 fun z hz => List.all_eq_true.1 f2 z (List.mem_of_mem_drop hz)⟩
    · rw [(q2 k).1 hk]; exact ⟨hd, by simpa using heap_lt q3⟩
    · obtain ⟨rfl, _⟩ := lk1 h; exact hk) hn
/-- A method as a value is not none. -/
theorem fnq {t1 t2 : TypeId} {f : FuncId} {ps' rs' : Array TypeId} {vv : Bool} (hX : envl g x = some (T.mv f Y)) (hY : envl g y = some (T.c .nilFunc)) (hu : P.underlying t1 = some (.func ps' rs' vv)) (hn : J P ops fin r (OpS.p (T.c (.bool false)) :: H) (putg t (T.c (.bool false)) g) E) (hg : GuardIs ops g ⟨t, .binOp .eql t1 x y t2, ty, ps, af, gd⟩ true := by exact gd0) : J P ops fin (⟨t, .binOp .eql t1 x y t2, ty, ps, af, gd⟩ :: r) H g E :=
  j_val hg (ok_pure fun ρ β u w F hs he hH => by
    obtain ⟨rv, h1, h2⟩ := he x (by simp [Op.operands]) _ hX
    have h3 : ρ y = .nilFunc := he y (by simp [Op.operands]) _ hY
    have : (Op.equalIn Op.maxDepth t1 (.func (.func f) #[rv] #[]) .nilFunc).run P w = .ok false w := by
      unfold Op.maxDepth
      unfold Op.equalIn
      rw [Sem.run_bind, run_underlying hu w]
      rfl
    exact ⟨.bool false, by simp [execOp, h1, h3, eqGuard, binOp, Op.equal, this], rfl⟩) hn
end
end Go.Proofs.YtekghdfbhbhigaaGreatDoor.V
/- A walk: fits, try, behind. -/
set_option linter.unusedVariables false
set_option linter.unusedSimpArgs false
set_option maxRecDepth 100000
namespace Go.Proofs.YtekghdfbhbhigaaGreatDoor.V
open Go.RowKit Mt Nml
theorem tySg : Ty Tryz.prog 9 false 1 := ⟨by kernel_rfl, by kernel_rfl⟩
theorem tyFb : Ty Tryz.prog 27 false 1 := ⟨by kernel_rfl, by kernel_rfl⟩
theorem tyA13 : Ty Tryz.prog 36 true 52 := ⟨by kernel_rfl, by kernel_rfl⟩
theorem uA13 : Tryz.prog.underlying 36 = some (.array 13 26) := by kernel_rfl
theorem uPW : Tryz.prog.underlying 28 = some (.pointer 38) := by kernel_rfl
theorem uFb : Tryz.prog.underlying 27 = some (.func #[] #[4] false) := by kernel_rfl
theorem fWt : FieldT Tryz.prog 38 0 0 true 7 := FieldT.mk' tyTr
theorem fWn : FieldT Tryz.prog 38 1 7 false 1 := FieldT.mk' tyI
theorem fWr : FieldT Tryz.prog 38 2 8 false 1 := FieldT.mk' tyZs
theorem fWb : FieldT Tryz.prog 38 3 9 true 4 := FieldT.mk' tyQ
theorem fWd : FieldT Tryz.prog 38 4 13 false 1 := FieldT.mk' tyI
theorem fWc : FieldT Tryz.prog 38 5 14 false 1 := FieldT.mk' tyZs
theorem fWp : FieldT Tryz.prog 38 6 15 true 52 := FieldT.mk' tyA13
theorem fWs : FieldT Tryz.prog 38 7 67 false 1 := FieldT.mk' tyFb
theorem fWz : FieldT Tryz.prog 38 8 68 false 1 := FieldT.mk' tySg
theorem stWk : StructT Tryz.prog 38 ([.slice none 0 0, .slice none 0 0, .slice none 0 0, .bool false, .slice none 0 0, .bool false, .slice none 0 0, .int .i64 0, .slice none 0 0, .bool false, .slice none 0 0, .bool false, .slice none 0 0, .int .i64 0, .slice none 0 0, .bool false, .slice none 0 0, .bool false, .slice none 0 0, .bool false, .slice none 0 0, .bool false, .slice none 0 0, .bool false, .slice none 0 0, .bool false, .slice none 0 0, .bool false, .slice none 0 0, .bool false, .slice none 0 0, .bool false, .slice none 0 0, .bool false, .slice none 0 0, .bool false, .slice none 0 0, .bool false, .slice none 0 0, .bool false, .slice none 0 0, .bool false, .slice none 0 0, .bool false, .slice none 0 0, .bool false, .slice none 0 0, .bool false, .slice none 0 0, .bool false, .slice none 0 0, .bool false, .slice none 0 0, .bool false, .slice none 0 0, .bool false, .slice none 0 0, .bool false, .slice none 0 0, .bool false, .slice none 0 0, .bool false, .slice none 0 0, .bool false, .slice none 0 0, .bool false, .slice none 0 0, .nilFunc, .string ⟨#[]⟩].map T.c) [(0, 7), (7, 1), (8, 1), (9, 4), (13, 1), (14, 1), (15, 52), (67, 1), (68, 1)] := StructT.mk'
/-- Some list. -/
def T.lz (k : Nat) : T := T.ex 1 false (fun _ : List Int => True) (fun l => T.l (cZ k) l) (fun _ => ⟨rfl, rfl, rfl⟩)
theorem any_mv {f : FuncId} {X : T} : (T.mv f X).le T.any := fun β u v ⟨r, e, _⟩ => by subst e; rfl
theorem any_c {x : Value} (h : x.oneCell' = true := by rfl) : (T.c x).le T.any := fun β u v e => by rw [show v = x from e]; exact h
theorem box_leL {et : TypeId} {l l' : List T} (h : LeL l l') (hz : l.map (·.sz) = l'.map (·.sz) := by rfl) : (Ent.box et l).le (Ent.box et l') := fun β u w v F ⟨b, cs, h1, h2, h3, h4⟩ => ⟨b, cs, h1, h2, h3, cells_le h4 h hz⟩

theorem w_fits {D : List Int} {L : List (List Int)} {ts : List (Int × Int)} {a b : Int} {n k : Nat}  {root cur : List Int} {R : Rat} {kb told : Nat} {p : Rat} {kp : Nat} (hkp : kp ≤ 17179869184) (hkb : kb ≤ 17179869184) : Fn Tryz.prog 72 [T.p 600 0, T.Q p kp] [(600, Ent.box 38 [T.Tr D L ts a b k, T.c (.int .i64 (n : Int)), T.l (cZ k) root, T.Q R kb, T.c (.int .i64 ((told : Nat) : Int)), T.l (cZ k) cur, T.parts, T.any, T.any])] [(600, Ent.box 38 [T.Tr D L ts a b k, T.c (.int .i64 (n : Int)), T.l (cZ k) root, T.Q R kb, T.c (.int .i64 ((told : Nat) : Int)), T.l (cZ k) cur, T.parts, T.any, T.any])] [] (T.c (.bool (decide (p ≤ R)))) := by
  refine fn_of Tryz.func72 rfl (by show 2 ≤ 18; decide) fun cx hcx => ?_
  refine tri_sub (sl 0 rfl (sl 1 rfl sn)) (el 600 rfl en) ?_
  refine tri_seq ?_
  refine tri_reg mixed hcx ?_ _ _
  refine bxs 10 rfl ?_
  refine asg rfl ?_
  refine ⟨by kernel_rfl, ?_⟩
  refine nx (sl 0 rfl (sl 3 rfl sn)) (el 600 rfl (el 10 rfl en)) ?_
  refine tri_seq ?_
  refine tri_reg mixed hcx ?_ _ _
  refine ld rfl rfl tyQ rfl ?_
  refine mv rfl ?_
  refine nk rfl ?_
  refine fa rfl fWb 9 ?_
  refine ld rfl rfl tyQ rfl ?_
  refine cb rfl (h := rv_Cmp (by omega) (by omega)) (hn := ?_)
  refine mv rfl ?_
  refine ex rfl rfl ?_
  refine ex rfl rfl ?_
  refine asg rfl ?_
  refine asg rfl ?_
  refine ⟨by kernel_rfl, ?_⟩
  refine nx (sl 5 rfl sn) (el 600 rfl (el 10 rfl en)) ?_
  refine tri_seq ?_
  refine tri_reg mixed hcx ?_ _ _
  refine mv rfl ?_
  refine cle rfl rfl rfl ?_
  refine asg rfl ?_
  refine ⟨by kernel_rfl, ?_⟩
  refine nx (sl 4 rfl sn) (el 600 rfl (el 10 rfl en)) ?_
  refine tri_ret ?_
  repeat (first | refine pn_thenr ?_ | refine pn_blkr ?_)
  exact ret1 hcx rfl (rv_tmp rfl) (.of (by rw [decide_eq_decide.2 cq_le])) (el 600 rfl en)

theorem w_try_no {D : List Int} {L : List (List Int)} {ts : List (Int × Int)} {a b : Int} {n k : Nat} (h : TrS D L ts n k) {root cur : List Int} {R : Rat} {kb told : Nat} {x : Int} (hb : 0 < b) (ha : 0 ≤ a) (hkb : kb ≤ 17179869184) (hc : cur.length + 1 ≤ n) (hw : ¬ ptT D L ts (cur ++ [x]) (n - 1) (cur ++ [x]).length ≤ R) : Fn Tryz.prog 54 [T.p 600 0, T.Z x k] [(600, Ent.box 38 [T.Tr D L ts a b k, T.c (.int .i64 (n : Int)), T.l (cZ k) root, T.Q R kb, T.c (.int .i64 ((told : Nat) : Int)), T.l (cZ k) cur, T.parts, T.any, T.any])] [(600, Ent.box 38 [T.Tr D L ts a b k, T.c (.int .i64 (n : Int)), T.l (cZ k) root, T.Q R kb, T.c (.int .i64 ((told : Nat) : Int)), T.l (cZ k) cur, T.parts, T.any, T.any])] [] (T.c (.bool false)) := by
  refine fn_of Tryz.func54 rfl (by show 2 ≤ 50; decide) fun cx hcx => ?_
  refine tri_sub (sl 0 rfl (sl 1 rfl sn)) (el 600 rfl en) ?_
  have hn12 := h.twelve
  have hkk := h.hk
  have hlL := h.len
  have hn0 := h.pos
  refine tri_z 1 rfl fun hxz => ?_
  have hlc : (cur ++ [x]).length = cur.length + 1 := by simp
  refine tri_seq ?_
  refine tri_reg mixed hcx ?_ _ _
  refine bxs 10 rfl ?_
  refine asg rfl ?_
  refine ⟨by kernel_rfl, ?_⟩
  refine nx (sl 0 rfl (sl 3 rfl sn)) (el 600 rfl (el 10 rfl en)) ?_
  refine tri_seq ?_
  refine tri_reg mixed hcx ?_ _ _
  refine mv rfl ?_
  refine nk rfl ?_
  refine fa rfl fWc 14 ?_
  refine ld rfl rfl tyZs rfl ?_
  refine mv rfl ?_
  refine nk rfl ?_
  refine fa rfl fWc 14 ?_
  refine ld rfl rfl tyZs rfl ?_
  refine ln slZs rfl ?_
  refine mv rfl ?_
  refine nk rfl ?_
  refine fa rfl fWc 14 ?_
  refine ld rfl rfl tyZs rfl ?_
  refine ln slZs rfl ?_
  refine sh3x (hi := cur.length) rfl slZs rfl rfl ⟨rfl, rfl, Nat.le_refl _⟩ ?_
  refine ld rfl rfl tyZ rfl ?_
  refine bs (c := cZ k) (xs := [x]) slZs rfl ⟨z_st hxz, trivial⟩ ?_
  refine apx (c := cZ k) 127 rfl rfl slZs (by rw [List.length_take]; simp only [List.length_cons, List.length_nil]; omega) (by decide) ?_
  refine asg rfl ?_
  refine ⟨by kernel_rfl, ?_⟩
  refine nx (sl 0 rfl (sl 5 rfl sn)) (el 600 rfl (el 10 rfl (el 127 rfl en))) ?_
  refine tri_seq ?_
  refine tri_fza 127 rfl ?_
  refine tri_rd 5 127 rfl rfl ?_
  refine tri_as 5 (Z := T.l (cZ k) (cur ++ [x])) rfl (.of (by rw [List.take_length])) ?_
  refine tri_reg mixed hcx ?_ _ _
  refine mv rfl ?_
  refine nk rfl ?_
  refine fa rfl fWt 0 ?_
  refine ld rfl rfl tyTr rfl ?_
  refine mv rfl ?_
  refine ca rfl (h := t_Part (s := cur ++ [x]) h hb ha (by omega)) (hn := ?_)
  refine mv rfl ?_
  refine ex rfl rfl ?_
  refine ex rfl rfl ?_
  refine nw 219 zeQ ?_
  refine st rfl rfl rfl tyQ rfl ?_
  refine asg rfl ?_
  refine ⟨by kernel_rfl, ?_⟩
  refine nx (sl 0 rfl (sl 5 rfl (sl 6 rfl sn))) (el 600 rfl (el 10 rfl (el 219 rfl en))) ?_
  refine tri_seq ?_
  refine tri_seq ?_
  refine tri_reg mixed hcx ?_ _ _
  refine mv rfl ?_
  refine ld rfl rfl tyQ rfl ?_
  refine cas (hE := rfl) (e := 600) rfl (h := fn_out (w_fits (by omega) hkb) (ci_b (decide_eq_false hw))) (hn := ?_)
  refine nt rfl _ rfl ?_
  refine ⟨by kernel_rfl, ?_⟩
  refine nx (sl 0 rfl (sl 5 rfl (sl 6 rfl (sl 38 rfl sn)))) (el 600 rfl (el 10 rfl (el 219 rfl en))) ?_
  refine tri_true rfl rfl ?_
  refine tri_seq ?_
  refine tri_reg mixed hcx ?_ _ _
  refine asg rfl ?_
  refine ⟨by kernel_rfl, ?_⟩
  refine nx (sl 4 rfl sn) (el 600 rfl (el 10 rfl (el 219 rfl en))) ?_
  refine tri_ret ?_
  repeat (first | refine pn_thenr ?_ | refine pn_blkr ?_)
  exact ret1 hcx rfl (rv_tmp rfl) (.refl _) (el 600 rfl en)

theorem w_try {D : List Int} {L : List (List Int)} {ts : List (Int × Int)} {a b : Int} {n k : Nat} (h : TrS D L ts n k) {root cur : List Int} {R : Rat} {kb told : Nat} {x : Int} (hb : 0 < b) (ha : 0 ≤ a) (hkb : kb ≤ 17179869184) (hc : cur.length + 1 ≤ n) (hw : ptT D L ts (cur ++ [x]) (n - 1) (cur ++ [x]).length ≤ R) : Fn Tryz.prog 54 [T.p 600 0, T.Z x k] [(600, Ent.box 38 [T.Tr D L ts a b k, T.c (.int .i64 (n : Int)), T.l (cZ k) root, T.Q R kb, T.c (.int .i64 ((told : Nat) : Int)), T.l (cZ k) cur, T.parts, T.any, T.any])] [(600, Ent.box 38 [T.Tr D L ts a b k, T.c (.int .i64 (n : Int)), T.l (cZ k) root, T.Q R kb, T.c (.int .i64 ((told : Nat) : Int)), T.l (cZ k) (cur ++ [x]), T.parts, T.any, T.any])] [] (T.c (.bool true)) := by
  refine fn_of Tryz.func54 rfl (by show 2 ≤ 50; decide) fun cx hcx => ?_
  refine tri_sub (sl 0 rfl (sl 1 rfl sn)) (el 600 rfl en) ?_
  have hn12 := h.twelve
  have hkk := h.hk
  have hlL := h.len
  have hn0 := h.pos
  refine tri_z 1 rfl fun hxz => ?_
  have hlc : (cur ++ [x]).length = cur.length + 1 := by simp
  refine tri_seq ?_
  refine tri_reg mixed hcx ?_ _ _
  refine bxs 10 rfl ?_
  refine asg rfl ?_
  refine ⟨by kernel_rfl, ?_⟩
  refine nx (sl 0 rfl (sl 3 rfl sn)) (el 600 rfl (el 10 rfl en)) ?_
  refine tri_seq ?_
  refine tri_reg mixed hcx ?_ _ _
  refine mv rfl ?_
  refine nk rfl ?_
  refine fa rfl fWc 14 ?_
  refine ld rfl rfl tyZs rfl ?_
  refine mv rfl ?_
  refine nk rfl ?_
  refine fa rfl fWc 14 ?_
  refine ld rfl rfl tyZs rfl ?_
  refine ln slZs rfl ?_
  refine mv rfl ?_
  refine nk rfl ?_
  refine fa rfl fWc 14 ?_
  refine ld rfl rfl tyZs rfl ?_
  refine ln slZs rfl ?_
  refine sh3x (hi := cur.length) rfl slZs rfl rfl ⟨rfl, rfl, Nat.le_refl _⟩ ?_
  refine ld rfl rfl tyZ rfl ?_
  refine bs (c := cZ k) (xs := [x]) slZs rfl ⟨z_st hxz, trivial⟩ ?_
  refine apx (c := cZ k) 127 rfl rfl slZs (by rw [List.length_take]; simp only [List.length_cons, List.length_nil]; omega) (by decide) ?_
  refine asg rfl ?_
  refine ⟨by kernel_rfl, ?_⟩
  refine nx (sl 0 rfl (sl 5 rfl sn)) (el 600 rfl (el 10 rfl (el 127 rfl en))) ?_
  refine tri_seq ?_
  refine tri_fza 127 rfl ?_
  refine tri_rd 5 127 rfl rfl ?_
  refine tri_as 5 (Z := T.l (cZ k) (cur ++ [x])) rfl (.of (by rw [List.take_length])) ?_
  refine tri_reg mixed hcx ?_ _ _
  refine mv rfl ?_
  refine nk rfl ?_
  refine fa rfl fWt 0 ?_
  refine ld rfl rfl tyTr rfl ?_
  refine mv rfl ?_
  refine ca rfl (h := t_Part (s := cur ++ [x]) h hb ha (by omega)) (hn := ?_)
  refine mv rfl ?_
  refine ex rfl rfl ?_
  refine ex rfl rfl ?_
  refine nw 219 zeQ ?_
  refine st rfl rfl rfl tyQ rfl ?_
  refine asg rfl ?_
  refine ⟨by kernel_rfl, ?_⟩
  refine nx (sl 0 rfl (sl 5 rfl (sl 6 rfl sn))) (el 600 rfl (el 10 rfl (el 219 rfl en))) ?_
  refine tri_seq ?_
  refine tri_seq ?_
  refine tri_reg mixed hcx ?_ _ _
  refine mv rfl ?_
  refine ld rfl rfl tyQ rfl ?_
  refine cas (hE := rfl) (e := 600) rfl (h := fn_out (w_fits (by omega) hkb) (ci_b (decide_eq_true hw))) (hn := ?_)
  refine nt rfl _ rfl ?_
  refine ⟨by kernel_rfl, ?_⟩
  refine nx (sl 0 rfl (sl 5 rfl (sl 6 rfl (sl 38 rfl sn)))) (el 600 rfl (el 10 rfl (el 219 rfl en))) ?_
  refine tri_false rfl rfl ?_
  refine tri_skip ?_
  refine nx (sl 0 rfl (sl 5 rfl (sl 6 rfl sn))) (el 600 rfl (el 10 rfl (el 219 rfl en))) ?_
  refine tri_seq ?_
  refine tri_reg mixed hcx ?_ _ _
  refine mv rfl ?_
  refine mv rfl ?_
  refine nk rfl ?_
  refine fa rfl fWc 14 ?_
  refine st rfl rfl rfl tyZs rfl ?_
  refine ⟨by kernel_rfl, ?_⟩
  refine nx (sl 0 rfl (sl 5 rfl (sl 6 rfl sn))) (el 600 rfl (el 10 rfl (el 219 rfl en))) ?_
  refine tri_seq ?_
  refine tri_reg mixed hcx ?_ _ _
  refine mv rfl ?_
  refine mv rfl ?_
  refine ln slZs rfl ?_
  refine ld rfl rfl tyQ rfl ?_
  refine nk rfl ?_
  refine fa rfl fWp 15 ?_
  refine ixa (i := (cur ++ [x]).length) (sz := 4) rfl rfl uA13 (by kernel_rfl) ⟨rfl, by omega⟩ ?_
  refine sta (A := [T.Tr D L ts a b k, T.c (.int .i64 (n : Int)), T.l (cZ k) root, T.Q R kb, T.c (.int .i64 ((told : Nat) : Int)), T.l (cZ k) (cur ++ [x])]) (B := [T.any, T.any]) (i := (cur ++ [x]).length * 4) rfl rfl rfl tyQ ⟨rfl, by omega⟩ ?_
  refine ⟨by kernel_rfl, ?_⟩
  refine nx sn (el 600 rfl (el 10 rfl (el 219 rfl en))) ?_
  refine tri_seq ?_
  refine tri_reg mixed hcx ?_ _ _
  refine asg rfl ?_
  refine ⟨by kernel_rfl, ?_⟩
  refine nx (sl 4 rfl sn) (el 600 rfl (el 10 rfl (el 219 rfl en))) ?_
  refine tri_ret ?_
  repeat (first | refine pn_thenr ?_ | refine pn_blkr ?_)
  exact ret1 hcx rfl (rv_tmp rfl) (.refl _) (el 600 rfl en)

theorem t_Centre {D : List Int} {L : List (List Int)} {ts : List (Int × Int)} {a b : Int} {n k : Nat} (h : TrS D L ts n k) {s : List Int} (hb : 0 < b) (ha : 0 ≤ a) (hs : s.length + 1 ≤ n) : Fn Tryz.prog 55 [T.Tr D L ts a b k, T.l (cZi k) s] [] [] [] (T.tup [T.Q (ctT D L ts s (n - 1) (n - 1 - s.length) s.length) 600000000, T.c (.int .i64 0)]) := by
  refine fn_of Tryz.func55 rfl (by show 2 ≤ 22; decide) fun cx hcx => ?_
  refine tri_sub (sl 0 rfl (sl 1 rfl sn)) en ?_
  have hn12 := h.twelve
  have hkk := h.hk
  have hlL := h.len
  have hn0 := h.pos
  refine tri_seq ?_
  refine tri_reg mixed hcx ?_ _ _
  refine bxs 10 rfl ?_
  refine nw 11 zeQ ?_
  refine asg rfl ?_
  refine ⟨by kernel_rfl, ?_⟩
  refine nx (sl 1 rfl (sl 2 rfl (sl 4 rfl sn))) (el 10 rfl (el 11 rfl en)) ?_
  refine tri_seq ?_
  refine tri_seq ?_
  refine tri_reg mixed hcx ?_ _ _
  refine ld rfl rfl tyTr rfl ?_
  refine mv rfl ?_
  refine fa rfl fTrG 0 ?_
  refine fa rfl fL 1 ?_
  refine ld rfl rfl tyZss rfl ?_
  refine ln slZss rfl ?_
  refine sb (((n - 1 : Nat) : Int)) rfl rfl rfl (by omega) ?_
  refine ca rfl (h := t_fits h hb ha (m := n - 1) (by omega) (by omega)) (hn := ?_)
  refine asg rfl ?_
  refine ⟨by kernel_rfl, ?_⟩
  refine nx (sl 1 rfl (sl 2 rfl (sl 4 rfl (sl 6 rfl sn)))) (el 10 rfl (el 11 rfl en)) ?_
  refine tri_seq ?_
  refine tri_reg mixed hcx ?_ _ _
  refine mv rfl ?_
  refine cne rfl rfl (decide_eq_false (by omega)) ?_
  refine ⟨by kernel_rfl, ?_⟩
  refine nx (sl 1 rfl (sl 2 rfl (sl 4 rfl (sl 6 rfl (sl 16 rfl sn))))) (el 10 rfl (el 11 rfl en)) ?_
  refine tri_false rfl rfl ?_
  refine tri_skip ?_
  refine nx (sl 1 rfl (sl 2 rfl (sl 4 rfl sn))) (el 10 rfl (el 11 rfl en)) ?_
  refine tri_seq ?_
  refine tri_reg mixed hcx ?_ _ _
  refine ld rfl rfl tyTr rfl ?_
  refine mv rfl ?_
  refine ca rfl (h := t_centre h (by omega)) (hn := ?_)
  refine st rfl rfl rfl tyQ rfl ?_
  refine asg rfl ?_
  refine ⟨by kernel_rfl, ?_⟩
  refine nx (sl 4 rfl (sl 5 rfl sn)) (el 10 rfl (el 11 rfl en)) ?_
  refine tri_ret ?_
  repeat (first | refine pn_thenr ?_ | refine pn_blkr ?_)
  exact ret2 hcx rfl (rv_cell (c' := cx) (n := 0) rfl rfl tyQ rfl) (rv_tmp rfl) (.refl _) en

theorem w_behind {c : Rat} {x : Int} {k l : Nat} (hk : k ≤ 4294967296) (hl : l ≤ 4294967296) : Fn Tryz.prog 57 [T.V c k, T.Zi x l] [] [] [] (T.Z (bhd c x) (2 * k + l + 16)) := by
  refine fn_of Tryz.func57 rfl (by show 2 ≤ 44; decide) fun cx hcx => ?_
  refine tri_sub (sl 0 rfl (sl 1 rfl sn)) en ?_
  refine tri_seq ?_
  refine tri_reg mixed hcx ?_ _ _
  refine bx 10 rfl ?_
  refine bx 11 rfl ?_
  refine nw 12 zeZ ?_
  refine ⟨by kernel_rfl, ?_⟩
  refine nx (sl 2 rfl (sl 3 rfl (sl 4 rfl sn))) (el 10 rfl (el 11 rfl (el 12 rfl en))) ?_
  refine tri_seq ?_
  refine tri_reg mixed hcx ?_ _ _
  refine ld rfl rfl tyQ rfl ?_
  refine ld rfl rfl tyQ rfl ?_
  refine cb rfl (h := rv_Add (by omega) (by omega)) (hn := ?_)
  refine mv rfl ?_
  refine ex rfl rfl ?_
  refine ex rfl rfl ?_
  refine nw 116 zeQ ?_
  refine st rfl rfl rfl tyQ rfl ?_
  refine asg rfl ?_
  refine ⟨by kernel_rfl, ?_⟩
  refine nx (sl 2 rfl (sl 3 rfl (sl 4 rfl (sl 5 rfl sn)))) (el 10 rfl (el 11 rfl (el 12 rfl (el 116 rfl en)))) ?_
  refine tri_seq ?_
  refine tri_reg mixed hcx ?_ _ _
  refine ld rfl rfl tyQ rfl ?_
  refine ld rfl rfl tyZ rfl ?_
  refine ca rfl (h := rat_Of (by omega)) (hn := ?_)
  refine cb rfl (h := rv_Sub (by omega) (by omega)) (hn := ?_)
  refine mv rfl ?_
  refine ex rfl rfl ?_
  refine ex rfl rfl ?_
  refine nw 217 zeQ ?_
  refine st rfl rfl rfl tyQ rfl ?_
  refine asg rfl ?_
  refine ⟨by kernel_rfl, ?_⟩
  refine nx (sl 2 rfl (sl 3 rfl (sl 4 rfl (sl 7 rfl sn)))) (el 10 rfl (el 11 rfl (el 12 rfl (el 116 rfl (el 217 rfl en))))) ?_
  refine tri_seq ?_
  refine tri_reg mixed hcx ?_ _ _
  refine ld rfl rfl tyQ rfl ?_
  refine cb rfl (h := rv_Floor (by omega)) (hn := ?_)
  refine mv rfl ?_
  refine ex rfl rfl ?_
  refine ex rfl rfl ?_
  refine nw 315 zeZ ?_
  refine st rfl rfl rfl tyZ rfl ?_
  refine asg rfl ?_
  refine ⟨by kernel_rfl, ?_⟩
  refine nx (sl 2 rfl (sl 3 rfl (sl 4 rfl (sl 9 rfl sn)))) (el 10 rfl (el 11 rfl (el 12 rfl (el 116 rfl (el 217 rfl (el 315 rfl en)))))) ?_
  refine tri_seq ?_
  refine tri_seq ?_
  refine tri_reg mixed hcx ?_ _ _
  refine ld rfl rfl tyZ rfl ?_
  refine ca rfl (h := rat_Of (by omega)) (hn := ?_)
  refine ld rfl rfl tyQ rfl ?_
  refine cb rfl (h := rv_Cmp (by omega) (by omega)) (hn := ?_)
  refine mv rfl ?_
  refine ex rfl rfl ?_
  refine ex rfl rfl ?_
  refine asg rfl ?_
  refine asg rfl ?_
  refine ⟨by kernel_rfl, ?_⟩
  refine nx (sl 4 rfl (sl 9 rfl (sl 11 rfl sn))) (el 10 rfl (el 11 rfl (el 12 rfl (el 116 rfl (el 217 rfl (el 315 rfl en)))))) ?_
  refine tri_seq ?_
  by_cases hc : c < (x : Rat)
  · have hcq := cq_pos hc
    refine tri_reg mixed hcx ?_ _ _
    refine mv rfl ?_
    refine cgt rfl rfl (decide_eq_true (by omega)) ?_
    refine ⟨by kernel_rfl, ?_⟩
    refine nx (sl 4 rfl (sl 9 rfl (sl 39 rfl sn))) (el 10 rfl (el 11 rfl (el 12 rfl (el 116 rfl (el 217 rfl (el 315 rfl en)))))) ?_
    refine tri_true rfl rfl ?_
    refine tri_seq ?_
    refine tri_reg mixed hcx ?_ _ _
    refine ld rfl rfl tyZ rfl ?_
    refine st rfl rfl rfl tyZ rfl ?_
    refine ⟨by kernel_rfl, ?_⟩
    refine nx (sl 4 rfl sn) (el 10 rfl (el 11 rfl (el 12 rfl (el 116 rfl (el 217 rfl (el 315 rfl en)))))) ?_
    refine tri_ret ?_
    repeat (first | refine pn_thenr ?_ | refine pn_blkr ?_)
    exact ret1 hcx rfl (rv_cell (c' := cx) (n := 0) rfl rfl tyZ rfl) (z_eqz (by unfold bhd; rw [if_pos hc, show c + c = 2 * c by grind]) (by omega)) en
  · have hcq := cq_npos hc
    refine tri_reg mixed hcx ?_ _ _
    refine mv rfl ?_
    refine cgt rfl rfl (decide_eq_false (by omega)) ?_
    refine ⟨by kernel_rfl, ?_⟩
    refine nx (sl 4 rfl (sl 9 rfl (sl 39 rfl sn))) (el 10 rfl (el 11 rfl (el 12 rfl (el 116 rfl (el 217 rfl (el 315 rfl en)))))) ?_
    refine tri_false rfl rfl ?_
    refine tri_skip ?_
    refine nx (sl 4 rfl (sl 9 rfl sn)) (el 10 rfl (el 11 rfl (el 12 rfl (el 116 rfl (el 217 rfl (el 315 rfl en)))))) ?_
    refine tri_seq ?_
    refine tri_reg mixed hcx ?_ _ _
    refine ld rfl rfl tyZ rfl ?_
    refine ca rfl (h := zi_Of (by omega) (by omega)) (hn := ?_)
    refine ca rfl (h := zi_Add (by omega) (by omega)) (hn := ?_)
    refine st rfl rfl rfl tyZ rfl ?_
    refine ⟨by kernel_rfl, ?_⟩
    refine nx (sl 4 rfl sn) (el 10 rfl (el 11 rfl (el 12 rfl (el 116 rfl (el 217 rfl (el 315 rfl en)))))) ?_
    refine tri_ret ?_
    repeat (first | refine pn_thenr ?_ | refine pn_blkr ?_)
    exact ret1 hcx rfl (rv_cell (c' := cx) (n := 0) rfl rfl tyZ rfl) (z_eqz (by unfold bhd; rw [if_neg hc, show c + c = 2 * c by grind]) (by omega)) en

/-- What is known of the suffix that the walk stands at. -/
def T.cu (k : Nat) (res : Option (List Int)) : T := T.ex 1 false (fun l : List Int => ∀ q, res = some q → l = q) (fun l => T.l (cZ k) l) (fun _ => ⟨rfl, rfl, rfl⟩)
theorem cu_some {k : Nat} {q : List Int} : (T.cu k (some q)).le (T.l (cZ k) q) := fun _ _ _ ⟨l, h, h2⟩ => by rw [← h q rfl]; exact h2
theorem some_cu {k : Nat} {q : List Int} : (T.l (cZ k) q).le (T.cu k (some q)) := fun _ _ _ h => ⟨q, ⟨(fun _ e => Option.some.inj e), h⟩⟩
theorem none_cu {k : Nat} {q : List Int} : (T.l (cZ k) q).le (T.cu k none) := fun _ _ _ h => ⟨q, ⟨(fun _ e => nomatch e), h⟩⟩
theorem ov_root {D : List Int} {L : List (List Int)} {ts : List (Int × Int)} {n k : Nat} {R : Rat} {r : Nat} {c : List Int} {res : Option (List Int)} (h : Ov D L ts n k R r c res) (hc : c.length ≤ r) : res = none := by
  rcases h.inv with ⟨_, e⟩ | ⟨q, x, rfl, h2, _⟩
  · exact e
  · rw [List.length_append, List.length_singleton] at hc; omega
theorem ov_step {D : List Int} {L : List (List Int)} {ts : List (Int × Int)} {n k : Nat} {R : Rat} {r : Nat} {c : List Int} {res : Option (List Int)} (h : Ov D L ts n k R r c res) (hc : r < c.length) : ∃ q x, c = q ++ [x] ∧ zl (bhd (cq_ D L ts n q) x) ≤ k ∧ ((Wi D L ts n R (q ++ [bhd (cq_ D L ts n q) x]) ∧ res = some (q ++ [bhd (cq_ D L ts n q) x])) ∨ (¬ Wi D L ts n R (q ++ [bhd (cq_ D L ts n q) x]) ∧ Ov D L ts n k R r q res)) := by
  rcases h.inv with ⟨h1, _⟩ | ⟨q, x, e, _, h3, h4⟩
  · omega
  · exact ⟨q, x, e, h3, h4⟩
theorem getD_end (q : List Int) (x d : Int) : (q ++ [x]).getD q.length d = x := by simp [List.getD]
theorem take_end (q : List Int) (x : Int) : (q ++ [x]).take q.length = q := by simp

theorem w_over {D : List Int} {L : List (List Int)} {ts : List (Int × Int)} {a b : Int} {n k : Nat} (h : TrS D L ts n k) {root cur : List Int} {R : Rat} {kb told : Nat} (hb : 0 < b) (ha : 0 ≤ a) (hkb : kb ≤ 17179869184) {res : Option (List Int)} (hl : cur.length ≤ n) (ho : Ov D L ts n k R root.length cur res) : Fn Tryz.prog 35 [T.p 600 0] [(600, Ent.box 38 [T.Tr D L ts a b k, T.c (.int .i64 (n : Int)), T.l (cZ k) root, T.Q R kb, T.c (.int .i64 ((told : Nat) : Int)), T.l (cZ k) cur, T.parts, T.any, T.any])] [(600, Ent.box 38 [T.Tr D L ts a b k, T.c (.int .i64 (n : Int)), T.l (cZ k) root, T.Q R kb, T.c (.int .i64 ((told : Nat) : Int)), T.cu k res, T.parts, T.any, T.any])] [] (T.c (.bool res.isSome)) := by
  refine fn_of Tryz.func35 rfl (by show 1 ≤ 60; decide) fun cx hcx => ?_
  refine tri_sub (sl 0 rfl sn) (el 600 rfl en) ?_
  have hn12 := h.twelve
  have hkk := h.hk
  have hlL := h.len
  have hn0 := h.pos
  refine tri_seq ?_
  refine tri_reg mixed hcx ?_ _ _
  refine asg rfl ?_
  refine ⟨by kernel_rfl, ?_⟩
  refine nx (sl 0 rfl sn) (el 600 rfl en) ?_
  refine tri_scope ?_
  refine tri_seq ?_
  refine tri_label ?_
  refine nx (sl 0 rfl sn) (el 600 rfl en) ?_
  refine tri_seq ?_
  refine tri_block ?_
  refine tri_loop (ι := List Int) (fun c => [(0, T.p 600 0)]) (fun c => [(600, some (Ent.box 38 [T.Tr D L ts a b k, T.c (.int .i64 (n : Int)), T.l (cZ k) root, T.Q R kb, T.c (.int .i64 ((told : Nat) : Int)), T.l (cZ k) c, T.parts, T.any, T.any]))]) (fun c => c.length) (fun c => (c.length ≤ n) ∧ (Ov D L ts n k R root.length c res)) cur ⟨hl, ho⟩ (sl 0 rfl sn) (el 600 rfl en) ?_
  rintro c ⟨hl, ho⟩
  refine tri_sub (sl 0 rfl sn) (el 600 rfl en) ?_
  refine tri_block ?_
  refine tri_seq ?_
  refine tri_seq ?_
  refine tri_reg mixed hcx ?_ _ _
  refine mv rfl ?_
  refine nk rfl ?_
  refine fa rfl fWc 14 ?_
  refine ld rfl rfl tyZs rfl ?_
  refine ln slZs rfl ?_
  refine mv rfl ?_
  refine nk rfl ?_
  refine fa rfl fWr 8 ?_
  refine ld rfl rfl tyZs rfl ?_
  refine ln slZs rfl ?_
  refine cle rfl rfl rfl ?_
  refine ⟨by kernel_rfl, ?_⟩
  refine nx (sl 0 rfl (sl 16 rfl sn)) (el 600 rfl en) ?_
  refine tri_if rfl (fun hc => ?_) (fun hc => ?_)
  · obtain rfl : res = none := ov_root ho (by omega)
    refine tri_seq ?_
    refine tri_reg mixed hcx ?_ _ _
    refine asg rfl ?_
    refine ⟨by kernel_rfl, ?_⟩
    refine nx (sl 2 rfl sn) (el 600 rfl en) ?_
    refine tri_ret ?_
    repeat (first | refine pn_thenr ?_ | refine pn_blkr ?_ | refine pn_scr ?_)
    exact ret1 hcx rfl (rv_tmp rfl) (.refl _) (ew 600 rfl (box_leL ⟨.refl _, .refl _, .refl _, .refl _, .refl _, none_cu, .refl _, .refl _, .refl _, trivial⟩) en)
  · obtain ⟨q, x, rfl, hz, ha2⟩ := ov_step ho (by omega)
    have hqx : (q ++ [x]).length = q.length + 1 := by simp
    have hBe := fn_le (As := [T.Q (ctT D L ts q (n - 1) (n - 1 - q.length) q.length) 600000000, (cZ k).X ((q ++ [x]).getD q.length (cZ k).dflt)]) (w_behind (c := cq_ D L ts n q) (x := x) (k := 600000000) (l := k) (by omega) (by omega)) ⟨q_v' _ _, (T.le.of (by rw [getD_end]; rfl)).trans (z_zi _ _), trivial⟩
    refine tri_skip ?_
    refine nx (sl 0 rfl sn) (el 600 rfl en) ?_
    refine tri_seq ?_
    refine tri_reg mixed hcx ?_ _ _
    refine mv rfl ?_
    refine nk rfl ?_
    refine fa rfl fWc 14 ?_
    refine ld rfl rfl tyZs rfl ?_
    refine mv rfl ?_
    refine nk rfl ?_
    refine fa rfl fWc 14 ?_
    refine ld rfl rfl tyZs rfl ?_
    refine ln slZs rfl ?_
    refine sb (((q.length : Nat) : Int)) rfl rfl rfl (by omega) ?_
    refine ix rfl rfl slZs ⟨rfl, by omega⟩ ?_
    refine lf rfl tyZ ?_
    refine nw 322 zeZ ?_
    refine st rfl rfl rfl tyZ rfl ?_
    refine ⟨by kernel_rfl, ?_⟩
    refine nx (sl 0 rfl (sl 3 rfl sn)) (el 600 rfl (el 322 rfl en)) ?_
    refine tri_seq ?_
    refine tri_reg mixed hcx ?_ _ _
    refine mv rfl ?_
    refine mv rfl ?_
    refine nk rfl ?_
    refine fa rfl fWc 14 ?_
    refine ld rfl rfl tyZs rfl ?_
    refine mv rfl ?_
    refine nk rfl ?_
    refine fa rfl fWc 14 ?_
    refine ld rfl rfl tyZs rfl ?_
    refine ln slZs rfl ?_
    refine sb (((q.length : Nat) : Int)) rfl rfl rfl (by omega) ?_
    refine sh rfl slZs rfl ⟨rfl, by omega⟩ ?_
    refine nk rfl ?_
    refine fa rfl fWc 14 ?_
    refine st rfl rfl rfl tyZs rfl ?_
    refine ⟨by kernel_rfl, ?_⟩
    refine nx (sl 0 rfl (sl 3 rfl sn)) (el 600 rfl (el 322 rfl en)) ?_
    refine tri_seq ?_
    refine tri_sub (sl 0 rfl (sl 3 rfl sn)) (el 322 rfl (ew 600 rfl (box_leL (l' := [T.Tr D L ts a b k, T.c (.int .i64 (n : Int)), T.l (cZ k) root, T.Q R kb, T.c (.int .i64 ((told : Nat) : Int)), T.l (cZ k) q, T.parts, T.any, T.any]) ⟨.refl _, .refl _, .refl _, .refl _, .refl _, (.of (by rw [take_end])), .refl _, .refl _, .refl _, trivial⟩) en)) ?_
    refine tri_reg mixed hcx ?_ _ _
    refine mv rfl ?_
    refine nk rfl ?_
    refine fa rfl fWt 0 ?_
    refine ld rfl rfl tyTr rfl ?_
    refine mv rfl ?_
    refine nk rfl ?_
    refine fa rfl fWc 14 ?_
    refine ld rfl rfl tyZs rfl ?_
    refine ca rfl (h := t_Centre (s := q) h hb ha (by omega)) (hn := ?_)
    refine mv rfl ?_
    refine ex rfl rfl ?_
    refine ex rfl rfl ?_
    refine nw 522 zeQ ?_
    refine st rfl rfl rfl tyQ rfl ?_
    refine asg rfl ?_
    refine ⟨by kernel_rfl, ?_⟩
    refine nx (sl 0 rfl (sl 3 rfl (sl 4 rfl sn))) (el 600 rfl (el 322 rfl (el 522 rfl en))) ?_
    refine tri_seq ?_
    rcases ha2 with ⟨hw, rfl⟩ | ⟨hw, ho2⟩
    · have hTr := fn_le (As := [T.p 600 0, T.Z (bhd (cq_ D L ts n q) x) (2 * 600000000 + k + 16)]) (w_try (kb := kb) (told := told) (root := root) (cur := q) (x := (bhd (cq_ D L ts n q) x)) h hb ha hkb (by omega) hw) ⟨.refl _, z_as hz, trivial⟩
      refine tri_reg mixed hcx ?_ _ _
      refine mv rfl ?_
      refine ld rfl rfl tyQ rfl ?_
      refine ld rfl rfl tyZ rfl ?_
      refine ca rfl (h := hBe) (hn := ?_)
      refine cas (hE := rfl) (e := 600) rfl (h := hTr) (hn := ?_)
      refine ⟨by kernel_rfl, ?_⟩
      refine nx (sl 0 rfl (sl 59 rfl sn)) (el 600 rfl (el 322 rfl (el 522 rfl en))) ?_
      refine tri_true rfl rfl ?_
      refine tri_exit ?_
      repeat (first | refine pn_then ?_ | refine pn_oth (by decide) ?_ | refine pn_sce ?_)
      refine pn_ex ?_
      refine nx sn (el 600 rfl (el 322 rfl (el 522 rfl en))) ?_
      refine tri_seq ?_
      refine tri_reg mixed hcx ?_ _ _
      refine asg rfl ?_
      refine ⟨by kernel_rfl, ?_⟩
      refine nx (sl 2 rfl sn) (el 600 rfl (el 322 rfl (el 522 rfl en))) ?_
      refine tri_ret ?_
      repeat (first | refine pn_thenr ?_ | refine pn_blkr ?_ | refine pn_scr ?_)
      exact ret1 hcx rfl (rv_tmp rfl) (.refl _) (ew 600 rfl (box_leL ⟨.refl _, .refl _, .refl _, .refl _, .refl _, some_cu, .refl _, .refl _, .refl _, trivial⟩) en)
    · have hTr := fn_le (As := [T.p 600 0, T.Z (bhd (cq_ D L ts n q) x) (2 * 600000000 + k + 16)]) (w_try_no (kb := kb) (told := told) (root := root) (cur := q) (x := (bhd (cq_ D L ts n q) x)) h hb ha hkb (by omega) hw) ⟨.refl _, z_as hz, trivial⟩
      refine tri_reg mixed hcx ?_ _ _
      refine mv rfl ?_
      refine ld rfl rfl tyQ rfl ?_
      refine ld rfl rfl tyZ rfl ?_
      refine ca rfl (h := hBe) (hn := ?_)
      refine cas (hE := rfl) (e := 600) rfl (h := hTr) (hn := ?_)
      refine ⟨by kernel_rfl, ?_⟩
      refine nx (sl 0 rfl (sl 59 rfl sn)) (el 600 rfl (el 322 rfl (el 522 rfl en))) ?_
      refine tri_false rfl rfl ?_
      refine tri_skip ?_
      refine pn_blk ?_
      exact pn_back q (by omega) ⟨by omega, ho2⟩ (sl 0 rfl sn) (el 600 rfl en)
end Go.Proofs.YtekghdfbhbhigaaGreatDoor.V
/- A walk: down, the first step, states, Next. -/
set_option linter.unusedVariables false
set_option linter.unusedSimpArgs false
set_option maxRecDepth 100000
namespace Go.Proofs.YtekghdfbhbhigaaGreatDoor.V
open Go.RowKit Mt Nml
theorem w_down {D : List Int} {L : List (List Int)} {ts : List (Int × Int)} {a b : Int} {n k : Nat} (h : TrS D L ts n k) {root cur : List Int} {R : Rat} {kb told : Nat} (hb : 0 < b) (ha : 0 ≤ a) (hkb : kb ≤ 17179869184) {res : Option (List Int)} (hl : cur.length ≤ n) (hd : Dn D L ts n k R root.length cur res) : Fn Tryz.prog 34 [T.p 600 0] [(600, Ent.box 38 [T.Tr D L ts a b k, T.c (.int .i64 (n : Int)), T.l (cZ k) root, T.Q R kb, T.c (.int .i64 ((told : Nat) : Int)), T.l (cZ k) cur, T.parts, T.any, T.any])] [(600, Ent.box 38 [T.Tr D L ts a b k, T.c (.int .i64 (n : Int)), T.l (cZ k) root, T.Q R kb, T.c (.int .i64 ((told : Nat) : Int)), T.cu k res, T.parts, T.any, T.any])] [] (T.c (.bool res.isSome)) := by
  refine fn_of Tryz.func34 rfl (by show 1 ≤ 39; decide) fun cx hcx => ?_
  refine tri_sub (sl 0 rfl sn) (el 600 rfl en) ?_
  have hn12 := h.twelve
  have hkk := h.hk
  have hlL := h.len
  have hn0 := h.pos
  refine tri_seq ?_
  refine tri_reg mixed hcx ?_ _ _
  refine asg rfl ?_
  refine ⟨by kernel_rfl, ?_⟩
  refine nx (sl 0 rfl sn) (el 600 rfl en) ?_
  refine tri_seq ?_
  refine tri_seq ?_
  rcases hd with ⟨h1, hz, hw, rfl⟩ | ⟨h1, hz, hw, ho⟩ | ⟨h1, ho⟩
  · have hTr := fn_le (As := [T.p 600 0, T.Z (nea (cq_ D L ts n cur)) (600000000 + 2)]) (w_try (kb := kb) (told := told) (root := root) (cur := cur) (x := (nea (cq_ D L ts n cur))) h hb ha hkb (by omega) hw) ⟨.refl _, z_as hz, trivial⟩
    refine tri_reg mixed hcx ?_ _ _
    refine mv rfl ?_
    refine nk rfl ?_
    refine fa rfl fWc 14 ?_
    refine ld rfl rfl tyZs rfl ?_
    refine ln slZs rfl ?_
    refine mv rfl ?_
    refine nk rfl ?_
    refine fa rfl fWn 7 ?_
    refine ld rfl rfl tyI rfl ?_
    refine clt rfl rfl (decide_eq_true (by omega)) ?_
    refine ⟨by kernel_rfl, ?_⟩
    refine nx (sl 0 rfl (sl 16 rfl sn)) (el 600 rfl en) ?_
    refine tri_true rfl rfl ?_
    refine tri_seq ?_
    refine tri_reg mixed hcx ?_ _ _
    refine mv rfl ?_
    refine nk rfl ?_
    refine fa rfl fWt 0 ?_
    refine ld rfl rfl tyTr rfl ?_
    refine mv rfl ?_
    refine nk rfl ?_
    refine fa rfl fWc 14 ?_
    refine ld rfl rfl tyZs rfl ?_
    refine ca rfl (h := t_Centre (s := cur) h hb ha (by omega)) (hn := ?_)
    refine mv rfl ?_
    refine ex rfl rfl ?_
    refine ex rfl rfl ?_
    refine nw 222 zeQ ?_
    refine st rfl rfl rfl tyQ rfl ?_
    refine asg rfl ?_
    refine ⟨by kernel_rfl, ?_⟩
    refine nx (sl 0 rfl (sl 3 rfl sn)) (el 600 rfl (el 222 rfl en)) ?_
    refine tri_seq ?_
    refine tri_reg mixed hcx ?_ _ _
    refine ld rfl rfl tyQ rfl ?_
    refine cb rfl (h := rv_Near (by omega)) (hn := ?_)
    refine mv rfl ?_
    refine ex rfl rfl ?_
    refine ex rfl rfl ?_
    refine nw 315 zeZ ?_
    refine st rfl rfl rfl tyZ rfl ?_
    refine asg rfl ?_
    refine ⟨by kernel_rfl, ?_⟩
    refine nx (sl 0 rfl (sl 5 rfl sn)) (el 600 rfl (el 222 rfl (el 315 rfl en))) ?_
    refine tri_seq ?_
    refine tri_reg mixed hcx ?_ _ _
    refine mv rfl ?_
    refine ld rfl rfl tyZ rfl ?_
    refine cas (hE := rfl) (e := 600) rfl (h := hTr) (hn := ?_)
    refine ⟨by kernel_rfl, ?_⟩
    refine nx (sl 0 rfl (sl 36 rfl sn)) (el 600 rfl (el 222 rfl (el 315 rfl en))) ?_
    refine tri_true rfl rfl ?_
    refine tri_seq ?_
    refine tri_reg mixed hcx ?_ _ _
    refine asg rfl ?_
    refine ⟨by kernel_rfl, ?_⟩
    refine nx (sl 2 rfl sn) (el 600 rfl (el 222 rfl (el 315 rfl en))) ?_
    refine tri_ret ?_
    repeat (first | refine pn_thenr ?_ | refine pn_blkr ?_)
    exact ret1 hcx rfl (rv_tmp rfl) (.refl _) (ew 600 rfl (box_leL ⟨.refl _, .refl _, .refl _, .refl _, .refl _, some_cu, .refl _, .refl _, .refl _, trivial⟩) en)
  · have hTr := fn_le (As := [T.p 600 0, T.Z (nea (cq_ D L ts n cur)) (600000000 + 2)]) (w_try_no (kb := kb) (told := told) (root := root) (cur := cur) (x := (nea (cq_ D L ts n cur))) h hb ha hkb (by omega) hw) ⟨.refl _, z_as hz, trivial⟩
    refine tri_reg mixed hcx ?_ _ _
    refine mv rfl ?_
    refine nk rfl ?_
    refine fa rfl fWc 14 ?_
    refine ld rfl rfl tyZs rfl ?_
    refine ln slZs rfl ?_
    refine mv rfl ?_
    refine nk rfl ?_
    refine fa rfl fWn 7 ?_
    refine ld rfl rfl tyI rfl ?_
    refine clt rfl rfl (decide_eq_true (by omega)) ?_
    refine ⟨by kernel_rfl, ?_⟩
    refine nx (sl 0 rfl (sl 16 rfl sn)) (el 600 rfl en) ?_
    refine tri_true rfl rfl ?_
    refine tri_seq ?_
    refine tri_reg mixed hcx ?_ _ _
    refine mv rfl ?_
    refine nk rfl ?_
    refine fa rfl fWt 0 ?_
    refine ld rfl rfl tyTr rfl ?_
    refine mv rfl ?_
    refine nk rfl ?_
    refine fa rfl fWc 14 ?_
    refine ld rfl rfl tyZs rfl ?_
    refine ca rfl (h := t_Centre (s := cur) h hb ha (by omega)) (hn := ?_)
    refine mv rfl ?_
    refine ex rfl rfl ?_
    refine ex rfl rfl ?_
    refine nw 222 zeQ ?_
    refine st rfl rfl rfl tyQ rfl ?_
    refine asg rfl ?_
    refine ⟨by kernel_rfl, ?_⟩
    refine nx (sl 0 rfl (sl 3 rfl sn)) (el 600 rfl (el 222 rfl en)) ?_
    refine tri_seq ?_
    refine tri_reg mixed hcx ?_ _ _
    refine ld rfl rfl tyQ rfl ?_
    refine cb rfl (h := rv_Near (by omega)) (hn := ?_)
    refine mv rfl ?_
    refine ex rfl rfl ?_
    refine ex rfl rfl ?_
    refine nw 315 zeZ ?_
    refine st rfl rfl rfl tyZ rfl ?_
    refine asg rfl ?_
    refine ⟨by kernel_rfl, ?_⟩
    refine nx (sl 0 rfl (sl 5 rfl sn)) (el 600 rfl (el 222 rfl (el 315 rfl en))) ?_
    refine tri_seq ?_
    refine tri_reg mixed hcx ?_ _ _
    refine mv rfl ?_
    refine ld rfl rfl tyZ rfl ?_
    refine cas (hE := rfl) (e := 600) rfl (h := hTr) (hn := ?_)
    refine ⟨by kernel_rfl, ?_⟩
    refine nx (sl 0 rfl (sl 36 rfl sn)) (el 600 rfl (el 222 rfl (el 315 rfl en))) ?_
    refine tri_false rfl rfl ?_
    refine tri_skip ?_
    refine nx (sl 0 rfl sn) (el 600 rfl (el 222 rfl (el 315 rfl en))) ?_
    refine tri_seq ?_
    refine tri_reg mixed hcx ?_ _ _
    refine mv rfl ?_
    refine cas (hE := rfl) (e := 600) rfl (h := w_over h hb ha hkb hl ho) (hn := ?_)
    refine asg rfl ?_
    refine ⟨by kernel_rfl, ?_⟩
    refine nx (sl 2 rfl sn) (el 600 rfl (el 222 rfl (el 315 rfl en))) ?_
    refine tri_ret ?_
    repeat (first | refine pn_thenr ?_ | refine pn_blkr ?_)
    exact ret1 hcx rfl (rv_tmp rfl) (.refl _) (el 600 rfl en)
  · refine tri_reg mixed hcx ?_ _ _
    refine mv rfl ?_
    refine nk rfl ?_
    refine fa rfl fWc 14 ?_
    refine ld rfl rfl tyZs rfl ?_
    refine ln slZs rfl ?_
    refine mv rfl ?_
    refine nk rfl ?_
    refine fa rfl fWn 7 ?_
    refine ld rfl rfl tyI rfl ?_
    refine clt rfl rfl (decide_eq_false (by omega)) ?_
    refine ⟨by kernel_rfl, ?_⟩
    refine nx (sl 0 rfl (sl 16 rfl sn)) (el 600 rfl en) ?_
    refine tri_false rfl rfl ?_
    refine tri_skip ?_
    refine nx (sl 0 rfl sn) (el 600 rfl en) ?_
    refine tri_seq ?_
    refine tri_reg mixed hcx ?_ _ _
    refine mv rfl ?_
    refine cas (hE := rfl) (e := 600) rfl (h := w_over h hb ha hkb hl ho) (hn := ?_)
    refine asg rfl ?_
    refine ⟨by kernel_rfl, ?_⟩
    refine nx (sl 2 rfl sn) (el 600 rfl en) ?_
    refine tri_ret ?_
    repeat (first | refine pn_thenr ?_ | refine pn_blkr ?_)
    exact ret1 hcx rfl (rv_tmp rfl) (.refl _) (el 600 rfl en)

theorem w_begin {D : List Int} {L : List (List Int)} {ts : List (Int × Int)} {a b : Int} {n k : Nat} (h : TrS D L ts n k) {root cur : List Int} {R : Rat} {kb told : Nat} (hb : 0 < b) (ha : 0 ≤ a) (hkb : kb ≤ 17179869184) {res : Option (List Int)} (hl : cur.length ≤ n) (hr : root.length = 0) (hd : Dn D L ts n k R root.length cur res) : Fn Tryz.prog 33 [T.p 600 0] [(600, Ent.box 38 [T.Tr D L ts a b k, T.c (.int .i64 (n : Int)), T.l (cZ k) root, T.Q R kb, T.c (.int .i64 ((told : Nat) : Int)), T.l (cZ k) cur, T.parts, T.any, T.any])] [(600, Ent.box 38 [T.Tr D L ts a b k, T.c (.int .i64 (n : Int)), T.l (cZ k) root, T.Q R kb, T.c (.int .i64 ((told : Nat) : Int)), T.cu k res, T.parts, T.any, T.any])] [] (T.c (.bool res.isSome)) := by
  refine fn_of Tryz.func33 rfl (by show 1 ≤ 43; decide) fun cx hcx => ?_
  refine tri_sub (sl 0 rfl sn) (el 600 rfl en) ?_
  have hn12 := h.twelve
  have hkk := h.hk
  have hlL := h.len
  have hn0 := h.pos
  refine tri_seq ?_
  refine tri_reg mixed hcx ?_ _ _
  refine asg rfl ?_
  refine ⟨by kernel_rfl, ?_⟩
  refine nx (sl 0 rfl sn) (el 600 rfl en) ?_
  refine tri_seq ?_
  refine tri_seq ?_
  refine tri_reg mixed hcx ?_ _ _
  refine mv rfl ?_
  refine nk rfl ?_
  refine fa rfl fWr 8 ?_
  refine ld rfl rfl tyZs rfl ?_
  refine ln slZs rfl ?_
  refine ceq rfl rfl (decide_eq_true (by omega)) ?_
  refine ⟨by kernel_rfl, ?_⟩
  refine nx (sl 0 rfl (sl 10 rfl sn)) (el 600 rfl en) ?_
  refine tri_true rfl rfl ?_
  refine tri_seq ?_
  refine tri_reg mixed hcx ?_ _ _
  refine mv rfl ?_
  refine cas (hE := rfl) (e := 600) rfl (h := w_down h hb ha hkb hl hd) (hn := ?_)
  refine asg rfl ?_
  refine ⟨by kernel_rfl, ?_⟩
  refine nx (sl 2 rfl sn) (el 600 rfl en) ?_
  refine tri_ret ?_
  repeat (first | refine pn_thenr ?_ | refine pn_blkr ?_)
  exact ret1 hcx rfl (rv_tmp rfl) (.refl _) (el 600 rfl en)

theorem w_none {D : List Int} {L : List (List Int)} {ts : List (Int × Int)} {a b : Int} {n k : Nat}  {root cur : List Int} {R : Rat} {kb told : Nat} {f : FuncId}  : Fn Tryz.prog 17 [T.p 600 0] [(600, Ent.box 38 [T.Tr D L ts a b k, T.c (.int .i64 (n : Int)), T.l (cZ k) root, T.Q R kb, T.c (.int .i64 ((told : Nat) : Int)), T.l (cZ k) cur, T.parts, (T.mv f (T.p 600 0)), T.any])] [(600, Ent.box 38 [T.Tr D L ts a b k, T.c (.int .i64 (n : Int)), T.l (cZ k) root, T.Q R kb, T.c (.int .i64 ((told : Nat) : Int)), T.l (cZ k) cur, T.parts, (T.mv f (T.p 600 0)), T.any])] [] (T.c (.bool false)) := by
  refine fn_of Tryz.func17 rfl (by show 1 ≤ 12; decide) fun cx hcx => ?_
  refine tri_sub (sl 0 rfl sn) (el 600 rfl en) ?_
  refine tri_seq ?_
  refine tri_reg mixed hcx ?_ _ _
  refine asg rfl ?_
  refine ⟨by kernel_rfl, ?_⟩
  refine nx (sl 0 rfl sn) (el 600 rfl en) ?_
  refine tri_seq ?_
  refine tri_reg mixed hcx ?_ _ _
  refine mv rfl ?_
  refine peq rfl rfl uPW ?_
  refine mv rfl ?_
  refine mv rfl ?_ (hg := gd1)
  refine nk rfl ?_ (hg := gd1)
  refine fa rfl fWs 67 ?_ (hg := gd1)
  refine ld rfl rfl tyFb rfl ?_ (hg := gd1)
  refine fnq rfl rfl uFb ?_ (hg := gd1)
  refine pk rfl rfl ?_
  refine asg rfl ?_
  refine ⟨by kernel_rfl, ?_⟩
  refine nx (sl 2 rfl sn) (el 600 rfl en) ?_
  refine tri_ret ?_
  repeat (first | refine pn_thenr ?_ | refine pn_blkr ?_)
  exact ret1 hcx rfl (rv_tmp rfl) (.refl _) (el 600 rfl en)

theorem w_be_new {D : List Int} {L : List (List Int)} {ts : List (Int × Int)} {a b : Int} {n k : Nat}  {root cur : List Int} {R : Rat} {kb told : Nat}  : Fn Tryz.prog 18 [T.p 600 0, T.c (.string ⟨#[110, 101, 119]⟩)] [(600, Ent.box 38 [T.Tr D L ts a b k, T.c (.int .i64 (n : Int)), T.l (cZ k) root, T.Q R kb, T.c (.int .i64 ((told : Nat) : Int)), T.l (cZ k) cur, T.parts, T.any, T.any])] [(600, Ent.box 38 [T.Tr D L ts a b k, T.c (.int .i64 (n : Int)), T.l (cZ k) root, T.Q R kb, T.c (.int .i64 ((told : Nat) : Int)), T.l (cZ k) cur, T.parts, (T.mv 33 (T.p 600 0)), T.any])] [] (T.tup []) := by
  refine fn_of Tryz.func18 rfl (by show 2 ≤ 35; decide) fun cx hcx => ?_
  refine tri_sub (sl 0 rfl (sl 1 rfl sn)) (el 600 rfl en) ?_
  refine tri_seq ?_
  refine tri_reg mixed hcx ?_ _ _
  refine mv rfl ?_
  refine mv rfl ?_
  refine nk rfl ?_
  refine fa rfl fWz 68 ?_
  refine st rfl rfl rfl tySg rfl ?_
  refine ⟨by kernel_rfl, ?_⟩
  refine nx (sl 0 rfl (sl 1 rfl sn)) (el 600 rfl en) ?_
  refine tri_seq ?_
  refine tri_reg mixed hcx ?_ _ _
  refine mv rfl ?_
  refine ⟨by kernel_rfl, ?_⟩
  refine nx (sl 0 rfl (sl 8 rfl sn)) (el 600 rfl en) ?_
  refine tri_block ?_
  refine tri_seq ?_
  refine tri_reg mixed hcx ?_ _ _
  refine seq rfl rfl (q := true) (by decide +kernel) ?_
  refine asg rfl ?_
  refine ⟨by kernel_rfl, ?_⟩
  refine nx (sl 0 rfl (sl 8 rfl (sl 14 rfl sn))) (el 600 rfl en) ?_
  refine tri_true rfl rfl ?_
  refine tri_reg mixed hcx ?_ _ _
  refine mv rfl ?_
  refine mv rfl ?_
  refine mfm rfl ?_
  refine nk rfl ?_
  refine fa rfl fWs 67 ?_
  refine st rfl rfl rfl tyFb rfl ?_
  refine ⟨by kernel_rfl, ?_⟩
  refine pn_blk ?_
  refine pn_off ?_
  exact ret0 hcx rfl  (.refl _) (ew 600 rfl (box_leL ⟨.refl _, .refl _, .refl _, .refl _, .refl _, .refl _, .refl _, .refl _, any_c, trivial⟩) en)

theorem w_be_on {D : List Int} {L : List (List Int)} {ts : List (Int × Int)} {a b : Int} {n k : Nat}  {root cur : List Int} {R : Rat} {kb told : Nat}  : Fn Tryz.prog 18 [T.p 600 0, T.c (.string ⟨#[111, 110]⟩)] [(600, Ent.box 38 [T.Tr D L ts a b k, T.c (.int .i64 (n : Int)), T.l (cZ k) root, T.Q R kb, T.c (.int .i64 ((told : Nat) : Int)), T.l (cZ k) cur, T.parts, T.any, T.any])] [(600, Ent.box 38 [T.Tr D L ts a b k, T.c (.int .i64 (n : Int)), T.l (cZ k) root, T.Q R kb, T.c (.int .i64 ((told : Nat) : Int)), T.l (cZ k) cur, T.parts, (T.mv 34 (T.p 600 0)), T.any])] [] (T.tup []) := by
  refine fn_of Tryz.func18 rfl (by show 2 ≤ 35; decide) fun cx hcx => ?_
  refine tri_sub (sl 0 rfl (sl 1 rfl sn)) (el 600 rfl en) ?_
  refine tri_seq ?_
  refine tri_reg mixed hcx ?_ _ _
  refine mv rfl ?_
  refine mv rfl ?_
  refine nk rfl ?_
  refine fa rfl fWz 68 ?_
  refine st rfl rfl rfl tySg rfl ?_
  refine ⟨by kernel_rfl, ?_⟩
  refine nx (sl 0 rfl (sl 1 rfl sn)) (el 600 rfl en) ?_
  refine tri_seq ?_
  refine tri_reg mixed hcx ?_ _ _
  refine mv rfl ?_
  refine ⟨by kernel_rfl, ?_⟩
  refine nx (sl 0 rfl (sl 8 rfl sn)) (el 600 rfl en) ?_
  refine tri_block ?_
  refine tri_seq ?_
  refine tri_reg mixed hcx ?_ _ _
  refine seq rfl rfl (q := false) (by decide +kernel) ?_
  refine asg rfl ?_
  refine ⟨by kernel_rfl, ?_⟩
  refine nx (sl 0 rfl (sl 8 rfl (sl 14 rfl sn))) (el 600 rfl en) ?_
  refine tri_false rfl rfl ?_
  refine tri_seq ?_
  refine tri_reg mixed hcx ?_ _ _
  refine seq rfl rfl (q := true) (by decide +kernel) ?_
  refine asg rfl ?_
  refine ⟨by kernel_rfl, ?_⟩
  refine nx (sl 0 rfl (sl 8 rfl (sl 21 rfl sn))) (el 600 rfl en) ?_
  refine tri_true rfl rfl ?_
  refine tri_reg mixed hcx ?_ _ _
  refine mv rfl ?_
  refine mv rfl ?_
  refine mfm rfl ?_
  refine nk rfl ?_
  refine fa rfl fWs 67 ?_
  refine st rfl rfl rfl tyFb rfl ?_
  refine ⟨by kernel_rfl, ?_⟩
  refine pn_blk ?_
  refine pn_off ?_
  exact ret0 hcx rfl  (.refl _) (ew 600 rfl (box_leL ⟨.refl _, .refl _, .refl _, .refl _, .refl _, .refl _, .refl _, .refl _, any_c, trivial⟩) en)

theorem w_be_end {D : List Int} {L : List (List Int)} {ts : List (Int × Int)} {a b : Int} {n k : Nat}  {root cur : List Int} {R : Rat} {kb told : Nat}  : Fn Tryz.prog 18 [T.p 600 0, T.c (.string ⟨#[101, 110, 100]⟩)] [(600, Ent.box 38 [T.Tr D L ts a b k, T.c (.int .i64 (n : Int)), T.l (cZ k) root, T.Q R kb, T.c (.int .i64 ((told : Nat) : Int)), T.l (cZ k) cur, T.parts, T.any, T.any])] [(600, Ent.box 38 [T.Tr D L ts a b k, T.c (.int .i64 (n : Int)), T.l (cZ k) root, T.Q R kb, T.c (.int .i64 ((told : Nat) : Int)), T.l (cZ k) cur, T.parts, (T.mv 36 (T.p 600 0)), T.any])] [] (T.tup []) := by
  refine fn_of Tryz.func18 rfl (by show 2 ≤ 35; decide) fun cx hcx => ?_
  refine tri_sub (sl 0 rfl (sl 1 rfl sn)) (el 600 rfl en) ?_
  refine tri_seq ?_
  refine tri_reg mixed hcx ?_ _ _
  refine mv rfl ?_
  refine mv rfl ?_
  refine nk rfl ?_
  refine fa rfl fWz 68 ?_
  refine st rfl rfl rfl tySg rfl ?_
  refine ⟨by kernel_rfl, ?_⟩
  refine nx (sl 0 rfl (sl 1 rfl sn)) (el 600 rfl en) ?_
  refine tri_seq ?_
  refine tri_reg mixed hcx ?_ _ _
  refine mv rfl ?_
  refine ⟨by kernel_rfl, ?_⟩
  refine nx (sl 0 rfl (sl 8 rfl sn)) (el 600 rfl en) ?_
  refine tri_block ?_
  refine tri_seq ?_
  refine tri_reg mixed hcx ?_ _ _
  refine seq rfl rfl (q := false) (by decide +kernel) ?_
  refine asg rfl ?_
  refine ⟨by kernel_rfl, ?_⟩
  refine nx (sl 0 rfl (sl 8 rfl (sl 14 rfl sn))) (el 600 rfl en) ?_
  refine tri_false rfl rfl ?_
  refine tri_seq ?_
  refine tri_reg mixed hcx ?_ _ _
  refine seq rfl rfl (q := false) (by decide +kernel) ?_
  refine asg rfl ?_
  refine ⟨by kernel_rfl, ?_⟩
  refine nx (sl 0 rfl (sl 8 rfl (sl 21 rfl sn))) (el 600 rfl en) ?_
  refine tri_false rfl rfl ?_
  refine tri_seq ?_
  refine tri_reg mixed hcx ?_ _ _
  refine seq rfl rfl (q := false) (by decide +kernel) ?_
  refine asg rfl ?_
  refine ⟨by kernel_rfl, ?_⟩
  refine nx (sl 0 rfl (sl 28 rfl sn)) (el 600 rfl en) ?_
  refine tri_false rfl rfl ?_
  refine tri_reg mixed hcx ?_ _ _
  refine mv rfl ?_
  refine mv rfl ?_
  refine mfm rfl ?_
  refine nk rfl ?_
  refine fa rfl fWs 67 ?_
  refine st rfl rfl rfl tyFb rfl ?_
  refine ⟨by kernel_rfl, ?_⟩
  refine pn_blk ?_
  refine pn_off ?_
  exact ret0 hcx rfl  (.refl _) (ew 600 rfl (box_leL ⟨.refl _, .refl _, .refl _, .refl _, .refl _, .refl _, .refl _, .refl _, any_c, trivial⟩) en)

theorem w_copied {l : List Int} {k : Nat} (hl : l.length ≤ 1048576) (hk : k ≤ 1099511627776) : Fn Tryz.prog 19 [T.l (cZi k) l] [] [] [] (T.l (cZ k) l) := by
  refine fn_of Tryz.func19 rfl (by show 1 ≤ 19; decide) fun cx hcx => ?_
  refine tri_sub (sl 0 rfl sn) en ?_
  refine tri_seq ?_
  refine tri_reg mixed hcx ?_ _ _
  refine asg rfl ?_
  refine ⟨by kernel_rfl, ?_⟩
  refine nx (sl 0 rfl sn) en ?_
  refine tri_seq ?_
  refine tri_reg mixed hcx ?_ _ _
  refine asg rfl ?_
  refine ⟨by kernel_rfl, ?_⟩
  refine nx (sl 0 rfl (sl 3 rfl sn)) en ?_
  refine tri_seq ?_
  refine tri_seq ?_
  refine tri_nil 3 9 24 (cZ k) rfl (by rw [hcx]; kernel_rfl) ?_
  refine tri_reg mixed hcx ?_ _ _
  refine mv rfl ?_
  refine ln slZs rfl ?_
  refine mv rfl ?_
  refine ⟨by kernel_rfl, ?_⟩
  refine nx (sl 3 rfl (sl 6 rfl (sl 7 rfl (sl 8 rfl sn)))) (el 9 rfl en) ?_
  refine tri_block ?_
  refine tri_loop (ι := Nat) (fun i => [(3, T.o 9), (6, T.l (cZi k) l), (7, T.c (.int .i64 (l.length : Int))), (8, T.c (.int .i64 (i : Int)))]) (fun i => [(9, some (Ent.row (cZ k) 24 (l.take i)))]) (fun i => l.length - i) (fun i => (i ≤ l.length)) 0 (Nat.zero_le _) (sl 3 rfl (sl 6 rfl (sl 7 rfl (sl 8 rfl sn)))) (el 9 rfl en) ?_
  rintro i hi
  refine tri_sub (sl 3 rfl (sl 6 rfl (sl 7 rfl (sl 8 rfl sn)))) (el 9 rfl en) ?_
  have htk : (l.take i).length = i := by rw [List.length_take]; omega
  refine tri_seq ?_
  refine tri_reg mixed hcx ?_ _ _
  refine clt rfl rfl rfl ?_
  refine ⟨by kernel_rfl, ?_⟩
  refine nx (sl 3 rfl (sl 6 rfl (sl 7 rfl (sl 8 rfl (sl 9 rfl sn))))) (el 9 rfl en) ?_
  refine tri_seq ?_
  refine tri_if rfl (fun hc => ?_) (fun hc => ?_)
  · have hc2 : i < l.length := by omega
    refine tri_skip ?_
    refine nx (sl 3 rfl (sl 6 rfl (sl 7 rfl (sl 8 rfl sn)))) (el 9 rfl en) ?_
    refine tri_seq ?_
    refine tri_block ?_
    refine tri_seq ?_
    refine tri_reg mixed hcx ?_ _ _
    refine ix rfl rfl slZs ⟨rfl, by omega⟩ ?_
    refine lf rfl tyZ ?_
    refine nw 412 zeZ ?_
    refine st rfl rfl rfl tyZ rfl ?_
    refine ⟨by kernel_rfl, ?_⟩
    refine nx (sl 3 rfl (sl 5 rfl (sl 6 rfl (sl 7 rfl (sl 8 rfl sn))))) (el 9 rfl (el 412 rfl en)) ?_
    refine tri_reg mixed hcx ?_ _ _
    refine mv rfl ?_
    refine ld rfl rfl tyZ rfl ?_
    refine ca rfl (h := zi_Form (by omega)) (hn := ?_)
    refine bs (c := cZ k) (xs := [l.getD i (cZi k).dflt]) slZs rfl ⟨.refl _, trivial⟩ ?_
    refine ap 514 rfl rfl rfl slZs (by simp only [List.length_cons, List.length_nil]; omega) (by decide) ?_
    refine asg rfl ?_
    refine ⟨by kernel_rfl, ?_⟩
    refine pn_blk ?_
    refine nx (sl 3 rfl (sl 6 rfl (sl 7 rfl (sl 8 rfl sn)))) (el 412 rfl (el 514 rfl en)) ?_
    refine tri_reg mixed hcx ?_ _ _
    refine ad (((i + 1 : Nat) : Int)) rfl rfl rfl (by omega) ?_
    refine mv rfl ?_
    refine ⟨by kernel_rfl, ?_⟩
    refine pn_sub (sl 3 rfl (sl 6 rfl (sl 7 rfl (sl 8 rfl sn)))) (el 412 rfl (el 514 rfl en)) ?_
    refine pn_ren 3 9 514 rfl rfl (by rw [hcx]; kernel_rfl) ?_
    exact pn_back (i + 1) (by first | omega | (dsimp only; omega)) (by omega) (sl 3 rfl (sl 6 rfl (sl 7 rfl (sl 8 rfl sn)))) (ew 9 rfl (.of (by rw [show (cZi k).dflt = 0 from rfl, take_snoc hc2])) en)
  · refine tri_exit ?_
    repeat (first | refine pn_then ?_ | refine pn_oth (by decide) ?_)
    refine pn_ex ?_
    have hin : i = l.length := by omega
    refine nx (sl 3 rfl sn) (el 9 rfl en) ?_
    refine tri_seq ?_
    refine tri_fz 9 rfl ?_
    refine tri_rd 3 9 rfl rfl ?_
    refine tri_as 3 (Z := T.l (cZ k) l) rfl (.of (by rw [hin, List.take_length])) ?_
    refine tri_reg mixed hcx ?_ _ _
    refine mv rfl ?_
    refine asg rfl ?_
    refine ⟨by kernel_rfl, ?_⟩
    refine nx (sl 2 rfl sn) en ?_
    refine tri_ret ?_
    repeat (first | refine pn_thenr ?_ | refine pn_blkr ?_)
    exact ret1 hcx rfl (rv_tmp rfl) (.refl _) en

theorem w_Next {D : List Int} {L : List (List Int)} {ts : List (Int × Int)} {a b : Int} {n k : Nat}  {root cur : List Int} {R : Rat} {kb told : Nat} {q : List Int} {f : FuncId} (hen : Enters Tryz.prog f) (hF : Fn Tryz.prog f [T.p 600 0] [(600, Ent.box 38 [T.Tr D L ts a b k, T.c (.int .i64 (n : Int)), T.l (cZ k) root, T.Q R kb, T.c (.int .i64 ((told : Nat) : Int)), T.l (cZ k) cur, T.parts, T.any, T.any])] [(600, Ent.box 38 [T.Tr D L ts a b k, T.c (.int .i64 (n : Int)), T.l (cZ k) root, T.Q R kb, T.c (.int .i64 ((told : Nat) : Int)), T.cu k (some q), T.parts, T.any, T.any])] [] (T.c (.bool true))) (ht : told < 1073741824) (hq : q.length ≤ 1048576) (hk : k ≤ 16777216) : Fn Tryz.prog 5 [T.p 600 0] [(600, Ent.box 38 [T.Tr D L ts a b k, T.c (.int .i64 (n : Int)), T.l (cZ k) root, T.Q R kb, T.c (.int .i64 ((told : Nat) : Int)), T.l (cZ k) cur, T.parts, (T.mv f (T.p 600 0)), T.any])] [(600, Ent.box 38 [T.Tr D L ts a b k, T.c (.int .i64 (n : Int)), T.l (cZ k) root, T.Q R kb, T.c (.int .i64 (((told + 1) : Nat) : Int)), T.l (cZ k) q, T.parts, (T.mv 34 (T.p 600 0)), T.any])] [] (T.tup [T.l (cZ k) q, T.c (.bool true)]) := by
  refine fn_of Tryz.func5 rfl (by show 1 ≤ 31; decide) fun cx hcx => ?_
  refine tri_sub (sl 0 rfl sn) (el 600 rfl en) ?_
  refine tri_seq ?_
  refine tri_reg mixed hcx ?_ _ _
  refine asg rfl ?_
  refine asg rfl ?_
  refine ⟨by kernel_rfl, ?_⟩
  refine nx (sl 0 rfl sn) (el 600 rfl en) ?_
  refine tri_seq ?_
  refine tri_seq ?_
  refine tri_reg mixed hcx ?_ _ _
  refine mv rfl ?_
  refine cas (hE := rfl) (e := 600) rfl (h := w_none (f := f)) (hn := ?_)
  refine ⟨by kernel_rfl, ?_⟩
  refine nx (sl 0 rfl (sl 5 rfl sn)) (el 600 rfl en) ?_
  refine tri_false rfl rfl ?_
  refine tri_skip ?_
  refine nx (sl 0 rfl sn) (el 600 rfl en) ?_
  refine tri_seq ?_
  refine tri_seq ?_
  refine tri_reg mixed hcx ?_ _ _
  refine mv rfl ?_
  refine nk rfl ?_
  refine fa rfl fWs 67 ?_
  refine ld rfl rfl tyFb rfl ?_
  refine cfm rfl hF (ew 600 rfl (box_leL ⟨.refl _, .refl _, .refl _, .refl _, .refl _, .refl _, .refl _, any_mv, .refl _, trivial⟩) en) (hen := hen) ?_
  refine nt rfl _ rfl ?_
  refine ⟨by kernel_rfl, ?_⟩
  refine nx (sl 0 rfl (sl 11 rfl sn)) (el 600 rfl en) ?_
  refine tri_false rfl rfl ?_
  refine tri_skip ?_
  refine nx (sl 0 rfl sn) (el 600 rfl en) ?_
  refine tri_seq ?_
  refine tri_sub (sl 0 rfl sn) (ew 600 rfl (box_leL (l' := [T.Tr D L ts a b k, T.c (.int .i64 (n : Int)), T.l (cZ k) root, T.Q R kb, T.c (.int .i64 ((told : Nat) : Int)), T.l (cZ k) q, T.parts, T.any, T.any]) ⟨.refl _, .refl _, .refl _, .refl _, .refl _, cu_some, .refl _, .refl _, .refl _, trivial⟩) en) ?_
  refine tri_reg mixed hcx ?_ _ _
  refine mv rfl ?_
  refine nk rfl ?_
  refine fa rfl fWd 13 ?_
  refine ld rfl rfl tyI rfl ?_
  refine ad (((told + 1 : Nat) : Int)) rfl rfl rfl (by omega) ?_
  refine nk rfl ?_
  refine fa rfl fWd 13 ?_
  refine st rfl rfl rfl tyI rfl ?_
  refine ⟨by kernel_rfl, ?_⟩
  refine nx (sl 0 rfl sn) (el 600 rfl en) ?_
  refine tri_seq ?_
  refine tri_reg mixed hcx ?_ _ _
  refine mv rfl ?_
  refine cas (hE := rfl) (e := 600) rfl (h := w_be_on) (hn := ?_)
  refine ⟨by kernel_rfl, ?_⟩
  refine nx (sl 0 rfl sn) (el 600 rfl en) ?_
  refine tri_seq ?_
  refine tri_reg mixed hcx ?_ _ _
  refine mv rfl ?_
  refine nk rfl ?_
  refine fa rfl fWc 14 ?_
  refine ld rfl rfl tyZs rfl ?_
  refine ca rfl (h := w_copied (k := k) hq (by omega)) (hn := ?_)
  refine asg rfl ?_
  refine asg rfl ?_
  refine ⟨by kernel_rfl, ?_⟩
  refine nx (sl 2 rfl (sl 3 rfl sn)) (el 600 rfl en) ?_
  refine tri_ret ?_
  repeat (first | refine pn_thenr ?_ | refine pn_blkr ?_)
  exact ret2 hcx rfl (rv_tmp rfl) (rv_tmp rfl) (.refl _) (el 600 rfl en)

theorem w_Next_no {D : List Int} {L : List (List Int)} {ts : List (Int × Int)} {a b : Int} {n k : Nat}  {root cur : List Int} {R : Rat} {kb told : Nat} {f : FuncId} (hen : Enters Tryz.prog f) (hF : Fn Tryz.prog f [T.p 600 0] [(600, Ent.box 38 [T.Tr D L ts a b k, T.c (.int .i64 (n : Int)), T.l (cZ k) root, T.Q R kb, T.c (.int .i64 ((told : Nat) : Int)), T.l (cZ k) cur, T.parts, T.any, T.any])] [(600, Ent.box 38 [T.Tr D L ts a b k, T.c (.int .i64 (n : Int)), T.l (cZ k) root, T.Q R kb, T.c (.int .i64 ((told : Nat) : Int)), T.cu k none, T.parts, T.any, T.any])] [] (T.c (.bool false))) (hk : k ≤ 16777216) : Fn Tryz.prog 5 [T.p 600 0] [(600, Ent.box 38 [T.Tr D L ts a b k, T.c (.int .i64 (n : Int)), T.l (cZ k) root, T.Q R kb, T.c (.int .i64 ((told : Nat) : Int)), T.l (cZ k) cur, T.parts, (T.mv f (T.p 600 0)), T.any])] [(600, Ent.box 38 [T.Tr D L ts a b k, T.c (.int .i64 (n : Int)), T.l (cZ k) root, T.Q R kb, T.c (.int .i64 ((told : Nat) : Int)), T.l (cZ k) [], T.parts, (T.mv 36 (T.p 600 0)), T.any])] [] (T.tup [T.c (.slice none 0 0), T.c (.bool false)]) := by
  refine fn_of Tryz.func5 rfl (by show 1 ≤ 31; decide) fun cx hcx => ?_
  refine tri_sub (sl 0 rfl sn) (el 600 rfl en) ?_
  refine tri_seq ?_
  refine tri_reg mixed hcx ?_ _ _
  refine asg rfl ?_
  refine asg rfl ?_
  refine ⟨by kernel_rfl, ?_⟩
  refine nx (sl 0 rfl sn) (el 600 rfl en) ?_
  refine tri_seq ?_
  refine tri_seq ?_
  refine tri_reg mixed hcx ?_ _ _
  refine mv rfl ?_
  refine cas (hE := rfl) (e := 600) rfl (h := w_none (f := f)) (hn := ?_)
  refine ⟨by kernel_rfl, ?_⟩
  refine nx (sl 0 rfl (sl 5 rfl sn)) (el 600 rfl en) ?_
  refine tri_false rfl rfl ?_
  refine tri_skip ?_
  refine nx (sl 0 rfl sn) (el 600 rfl en) ?_
  refine tri_seq ?_
  refine tri_seq ?_
  refine tri_reg mixed hcx ?_ _ _
  refine mv rfl ?_
  refine nk rfl ?_
  refine fa rfl fWs 67 ?_
  refine ld rfl rfl tyFb rfl ?_
  refine cfm rfl hF (ew 600 rfl (box_leL ⟨.refl _, .refl _, .refl _, .refl _, .refl _, .refl _, .refl _, any_mv, .refl _, trivial⟩) en) (hen := hen) ?_
  refine nt rfl _ rfl ?_
  refine ⟨by kernel_rfl, ?_⟩
  refine nx (sl 0 rfl (sl 11 rfl sn)) (el 600 rfl en) ?_
  refine tri_true rfl rfl ?_
  refine tri_seq ?_
  refine tri_reg mixed hcx ?_ _ _
  refine mv rfl ?_
  refine nk rfl ?_
  refine fa rfl fWc 14 ?_
  refine st rfl rfl rfl tyZs rfl ?_
  refine ⟨by kernel_rfl, ?_⟩
  refine nx (sl 0 rfl sn) (el 600 rfl en) ?_
  refine tri_seq ?_
  refine tri_sub (sl 0 rfl sn) (ew 600 rfl (box_leL (l' := [T.Tr D L ts a b k, T.c (.int .i64 (n : Int)), T.l (cZ k) root, T.Q R kb, T.c (.int .i64 ((told : Nat) : Int)), T.l (cZ k) [], T.parts, T.any, T.any]) ⟨.refl _, .refl _, .refl _, .refl _, .refl _, (nil_l _), .refl _, .refl _, .refl _, trivial⟩) en) ?_
  refine tri_reg mixed hcx ?_ _ _
  refine mv rfl ?_
  refine cas (hE := rfl) (e := 600) rfl (h := w_be_end) (hn := ?_)
  refine ⟨by kernel_rfl, ?_⟩
  refine nx sn (el 600 rfl en) ?_
  refine tri_seq ?_
  refine tri_reg mixed hcx ?_ _ _
  refine asg rfl ?_
  refine asg rfl ?_
  refine ⟨by kernel_rfl, ?_⟩
  refine nx (sl 2 rfl (sl 3 rfl sn)) (el 600 rfl en) ?_
  refine tri_ret ?_
  repeat (first | refine pn_thenr ?_ | refine pn_blkr ?_)
  exact ret2 hcx rfl (rv_tmp rfl) (rv_tmp rfl) (.refl _) (el 600 rfl en)
end Go.Proofs.YtekghdfbhbhigaaGreatDoor.V
/- A walk: a tree kept, New. -/
set_option linter.unusedVariables false
set_option linter.unusedSimpArgs false
set_option maxRecDepth 100000
namespace Go.Proofs.YtekghdfbhbhigaaGreatDoor.V
open Go.RowKit Mt Nml
/-- Pairs of whole numbers as rationals, of canonical limbs. -/
def cQo (k : Nat) : Cod (Int × Int) := ⟨fun q => T.st [T.Z q.1 k, T.Z q.2 k], 4, (0, 0), fun _ => rfl, fun _ => rfl, by decide⟩
theorem qo_qi (k : Nat) (l : List (Int × Int)) : (T.l (cQo k) l).le (T.l (cQi k) l) := tl_le (c := cQo k) (d := cQi k) (fun q => st_le (l := [T.Z q.1 k, T.Z q.2 k]) (l' := [T.Zi q.1 k, T.Zi q.2 k]) ⟨z_zi _ _, z_zi _ _, trivial⟩) l
theorem tr_flat2 {A B C D E : T} : (T.st [A, B, C, T.st [D, E]]).le (T.st [A, B, C, D, E]) := fun β u v ⟨cs, e, v1, r1, h1, hv1, e2, v2, r2, h2, hv2, e3, v3, r3, h3, hv3, e4, v4, r4, _, ⟨cs4, e5, c4⟩, e6, e7⟩ => by
  refine ⟨cs, e, ?_⟩
  have h7 : r4 = [] := e7
  subst e5 h7
  refine ⟨v1, r1, h1, hv1, e2, v2, r2, h2, hv2, e3, v3, r3, h3, hv3, e4, ?_⟩
  have h8 : r3 = cs4 := by rw [e6]; simp [Value.cells]
  rw [h8]; exact c4

theorem w_keep1 {a b : Int} {k : Nat} (hk : k ≤ 1099511627776) : Fn Tryz.prog 71 [T.st [T.Zi a k, T.Zi b k]] [] [] [] (T.st [T.Z a k, T.Z b k]) := by
  refine fn_of Tryz.func71 rfl (by show 1 ≤ 10; decide) fun cx hcx => ?_
  refine tri_sub (sl 0 rfl sn) en ?_
  refine tri_seq ?_
  refine tri_reg mixed hcx ?_ _ _
  refine bxs 10 rfl ?_
  refine nw 11 zeQ ?_
  refine ⟨by kernel_rfl, ?_⟩
  refine nx (sl 1 rfl (sl 2 rfl sn)) (el 10 rfl (el 11 rfl en)) ?_
  refine tri_seq ?_
  refine tri_reg mixed hcx ?_ _ _
  refine fa rfl fNum 0 ?_
  refine ld rfl rfl tyZ rfl ?_
  refine ca rfl (h := zi_Form (by omega)) (hn := ?_)
  refine fa rfl fDen 2 ?_
  refine ld rfl rfl tyZ rfl ?_
  refine ca rfl (h := zi_Form (by omega)) (hn := ?_)
  refine bu stQ rfl ?_
  refine sts rfl rfl rfl tyQ rfl ?_
  refine ⟨by kernel_rfl, ?_⟩
  refine nx (sl 2 rfl sn) (el 10 rfl (el 11 rfl en)) ?_
  refine tri_ret ?_
  repeat (first | refine pn_thenr ?_ | refine pn_blkr ?_)
  exact ret1 hcx rfl (rv_cell (c' := cx) (n := 0) rfl rfl tyQ rfl) (.refl _) en

theorem w_keep {D : List Int} {L : List (List Int)} {ts : List (Int × Int)} {a b : Int} {k : Nat} (hD : D.length ≤ 1048576) (hL : L.length ≤ 1048576) (hLr : ∀ i, i < L.length → (L.getD i []).length ≤ 1048576) (ht : ts.length ≤ 1048576) (hk : k ≤ 1099511627776)  : Fn Tryz.prog 50 [T.Tr D L ts a b k] [] [] [] (T.Tr D L ts a b k) := by
  refine fn_of Tryz.func50 rfl (by show 1 ≤ 55; decide) fun cx hcx => ?_
  refine tri_sub (sl 0 rfl sn) en ?_
  refine tri_seq ?_
  refine tri_reg mixed hcx ?_ _ _
  refine bxs 10 rfl ?_
  refine nw 11 zeTr ?_
  refine ⟨by kernel_rfl, ?_⟩
  refine nx (sl 1 rfl (sl 2 rfl sn)) (el 10 rfl (el 11 rfl en)) ?_
  refine tri_seq ?_
  refine tri_reg mixed hcx ?_ _ _
  refine asg rfl ?_
  refine ⟨by kernel_rfl, ?_⟩
  refine nx (sl 1 rfl (sl 2 rfl (sl 3 rfl sn))) (el 10 rfl (el 11 rfl en)) ?_
  refine tri_seq ?_
  refine tri_as 3 (Z := T.fn 71 []) rfl fnc_le ?_
  refine tri_reg mixed hcx ?_ _ _
  refine mv rfl ?_
  refine fa rfl fTrR 3 ?_
  refine ld rfl rfl tyQ rfl ?_
  refine cf rfl rfl (w_keep1 hk) (by intro a w; kernel_rfl) ?_
  refine bu stTr rfl ?_
  refine nw 215 zeTr ?_
  refine sts rfl rfl rfl tyTr rfl ?_
  refine ⟨by kernel_rfl, ?_⟩
  refine nx (sl 1 rfl (sl 2 rfl (sl 3 rfl (sl 4 rfl sn)))) (el 10 rfl (el 11 rfl (el 215 rfl en))) ?_
  refine tri_seq ?_
  refine tri_seq ?_
  refine tri_nilb (cQo k) 26 (bl := [T.c (.slice none 0 0), T.c (.slice none 0 0), T.c (.slice none 0 0), T.st [T.Z a k, T.Z b k]]) (bl' := [T.c (.slice none 0 0), T.c (.slice none 0 0), T.o 9, T.st [T.Z a k, T.Z b k]]) 215 9 rfl ⟨.inl ⟨rfl, by show 9 ∉ []; decide⟩, .inl ⟨rfl, by show 9 ∉ []; decide⟩, .inr ⟨rfl, rfl⟩, .inl ⟨rfl, by show 9 ∉ []; decide⟩, trivial⟩ (by rw [hcx]; kernel_rfl) ?_
  refine tri_reg mixed hcx ?_ _ _
  refine fa rfl fTrT 2 ?_
  refine ld rfl rfl tyQs rfl ?_
  refine ln slQs rfl ?_
  refine mv rfl ?_
  refine ⟨by kernel_rfl, ?_⟩
  refine nx (sl 1 rfl (sl 2 rfl (sl 3 rfl (sl 4 rfl (sl 15 rfl (sl 16 rfl (sl 17 rfl sn))))))) (el 10 rfl (el 11 rfl (el 215 rfl (el 9 rfl en)))) ?_
  refine tri_block ?_
  refine tri_loop (ι := Nat) (fun i => [(1, T.p 10 0), (2, T.p 11 0), (3, T.fn 71 []), (4, T.p 215 0), (15, T.l (cQi k) ts), (16, T.c (.int .i64 (ts.length : Int))), (17, T.c (.int .i64 (i : Int)))]) (fun i => [(10, some (Ent.box 35 [T.l (cZi k) D, T.l (cL (cZi k)) L, T.l (cQi k) ts, T.Zi a k, T.Zi b k])), (11, some (Ent.box 35 [T.c (.slice none 0 0), T.c (.slice none 0 0), T.c (.slice none 0 0), T.c (.bool false), T.c (.slice none 0 0), T.c (.bool false), T.c (.slice none 0 0)])), (215, some (Ent.box 35 [T.c (.slice none 0 0), T.c (.slice none 0 0), T.o 9, T.st [T.Z a k, T.Z b k]])), (9, some (Ent.row (cQo k) 26 (ts.take i)))]) (fun i => ts.length - i) (fun i => (i ≤ ts.length)) 0 (Nat.zero_le _) (sl 1 rfl (sl 2 rfl (sl 3 rfl (sl 4 rfl (sl 15 rfl (sl 16 rfl (sl 17 rfl sn))))))) (el 10 rfl (el 11 rfl (el 215 rfl (el 9 rfl en)))) ?_
  rintro i hi
  refine tri_sub (sl 1 rfl (sl 2 rfl (sl 3 rfl (sl 4 rfl (sl 15 rfl (sl 16 rfl (sl 17 rfl sn))))))) (el 10 rfl (el 11 rfl (el 215 rfl (el 9 rfl en)))) ?_
  have htk : (ts.take i).length = i := by rw [List.length_take]; omega
  refine tri_seq ?_
  refine tri_reg mixed hcx ?_ _ _
  refine clt rfl rfl rfl ?_
  refine ⟨by kernel_rfl, ?_⟩
  refine nx (sl 1 rfl (sl 2 rfl (sl 3 rfl (sl 4 rfl (sl 15 rfl (sl 16 rfl (sl 17 rfl (sl 18 rfl sn)))))))) (el 10 rfl (el 11 rfl (el 215 rfl (el 9 rfl en)))) ?_
  refine tri_seq ?_
  refine tri_if rfl (fun hc => ?_) (fun hc => ?_)
  · have hc2 : i < ts.length := by omega
    refine tri_skip ?_
    refine nx (sl 1 rfl (sl 2 rfl (sl 3 rfl (sl 4 rfl (sl 15 rfl (sl 16 rfl (sl 17 rfl sn))))))) (el 10 rfl (el 11 rfl (el 215 rfl (el 9 rfl en)))) ?_
    refine tri_seq ?_
    refine tri_block ?_
    refine tri_seq ?_
    refine tri_reg mixed hcx ?_ _ _
    refine ix rfl rfl slQs ⟨rfl, by omega⟩ ?_
    refine lf rfl tyQ ?_
    refine nw 512 zeQ ?_
    refine st rfl rfl rfl tyQ rfl ?_
    refine ⟨by kernel_rfl, ?_⟩
    refine nx (sl 1 rfl (sl 2 rfl (sl 3 rfl (sl 4 rfl (sl 6 rfl (sl 15 rfl (sl 16 rfl (sl 17 rfl sn)))))))) (el 10 rfl (el 11 rfl (el 215 rfl (el 9 rfl (el 512 rfl en))))) ?_
    refine tri_reg mixed hcx ?_ _ _
    refine fa rfl fTrT 2 ?_
    refine ld rfl rfl tyQs rfl ?_
    refine mv rfl ?_
    refine ld rfl rfl tyQ rfl ?_
    refine cf rfl rfl (w_keep1 hk) (by intro a w; kernel_rfl) ?_
    refine bs (c := cQo k) (xs := [ts.getD i (cQi k).dflt]) slQs rfl ⟨.refl _, trivial⟩ ?_
    refine ap 616 rfl rfl rfl slQs (by simp only [List.length_cons, List.length_nil]; omega) (by decide) ?_
    refine fa rfl fTrT 2 ?_
    refine st rfl rfl rfl tyQs rfl ?_
    refine ⟨by kernel_rfl, ?_⟩
    refine pn_blk ?_
    refine nx (sl 1 rfl (sl 2 rfl (sl 3 rfl (sl 4 rfl (sl 15 rfl (sl 16 rfl (sl 17 rfl sn))))))) (el 10 rfl (el 11 rfl (el 215 rfl (el 512 rfl (el 616 rfl en))))) ?_
    refine tri_reg mixed hcx ?_ _ _
    refine ad (((i + 1 : Nat) : Int)) rfl rfl rfl (by omega) ?_
    refine mv rfl ?_
    refine ⟨by kernel_rfl, ?_⟩
    refine pn_sub (sl 1 rfl (sl 2 rfl (sl 3 rfl (sl 4 rfl (sl 15 rfl (sl 16 rfl (sl 17 rfl sn))))))) (el 10 rfl (el 11 rfl (el 215 rfl (el 616 rfl en)))) ?_
    refine pn_renb (bl := [T.c (.slice none 0 0), T.c (.slice none 0 0), T.o 616, T.st [T.Z a k, T.Z b k]]) (bl' := [T.c (.slice none 0 0), T.c (.slice none 0 0), T.o 9, T.st [T.Z a k, T.Z b k]]) 215 9 616 rfl rfl ⟨.inl ⟨rfl, by show 9 ∉ []; decide⟩, .inl ⟨rfl, by show 9 ∉ []; decide⟩, .inr ⟨rfl, rfl⟩, .inl ⟨rfl, by show 9 ∉ []; decide⟩, trivial⟩ (by rw [hcx]; kernel_rfl) rfl ?_
    exact pn_back (i + 1) (by first | omega | (dsimp only; omega)) (by omega) (sl 1 rfl (sl 2 rfl (sl 3 rfl (sl 4 rfl (sl 15 rfl (sl 16 rfl (sl 17 rfl sn))))))) (el 10 rfl (el 11 rfl (el 215 rfl (ew 9 rfl (.of (by rw [show (cQi k).dflt = (0, 0) from rfl, take_snoc hc2])) en))))
  · refine tri_exit ?_
    repeat (first | refine pn_then ?_ | refine pn_oth (by decide) ?_)
    refine pn_ex ?_
    have hin : i = ts.length := by omega
    refine nx (sl 1 rfl (sl 2 rfl (sl 4 rfl sn))) (el 10 rfl (el 11 rfl (el 215 rfl (el 9 rfl en)))) ?_
    refine tri_seq ?_
    refine tri_fz 9 rfl ?_
    refine tri_rdb (bl := [T.c (.slice none 0 0), T.c (.slice none 0 0), T.o 9, T.st [T.Z a k, T.Z b k]]) (bl' := [T.c (.slice none 0 0), T.c (.slice none 0 0), T.l (cQo k) (ts.take i), T.st [T.Z a k, T.Z b k]]) 215 9 rfl rfl ⟨.inl rfl, .inl rfl, .inr ⟨rfl, rfl⟩, .inl rfl, trivial⟩ ?_
    refine tri_sub (sl 1 rfl (sl 2 rfl (sl 4 rfl sn))) (el 10 rfl (el 11 rfl (ew 215 rfl (box_leL (l' := [T.c (.slice none 0 0), T.c (.slice none 0 0), T.l (cQi k) ts, T.st [T.Z a k, T.Z b k]]) ⟨.refl _, .refl _, (T.le.of (by rw [hin, List.take_length])).trans (qo_qi _ _), .refl _, trivial⟩) en))) ?_
    refine tri_reg mixed hcx ?_ _ _
    refine fa rfl fTrG 0 ?_
    refine fa rfl fD 0 ?_
    refine ld rfl rfl tyZs rfl ?_
    refine ca rfl (h := w_copied (k := k) hD hk) (hn := ?_)
    refine fa rfl fTrG 0 ?_
    refine fa rfl fD 0 ?_
    refine st rfl rfl rfl tyZs rfl ?_
    refine ⟨by kernel_rfl, ?_⟩
    refine nx (sl 1 rfl (sl 2 rfl (sl 4 rfl sn))) (el 10 rfl (el 11 rfl (el 215 rfl en))) ?_
    refine tri_seq ?_
    refine tri_seq ?_
    refine tri_nilb (cL (cZ k)) 29 (bl := [T.l (cZ k) D, T.c (.slice none 0 0), T.l (cQi k) ts, T.st [T.Z a k, T.Z b k]]) (bl' := [T.l (cZ k) D, T.o 9, T.l (cQi k) ts, T.st [T.Z a k, T.Z b k]]) 215 9 rfl ⟨.inl ⟨rfl, by show 9 ∉ []; decide⟩, .inr ⟨rfl, rfl⟩, .inl ⟨rfl, by show 9 ∉ []; decide⟩, .inl ⟨rfl, by show 9 ∉ []; decide⟩, trivial⟩ (by rw [hcx]; kernel_rfl) ?_
    refine tri_reg mixed hcx ?_ _ _
    refine fa rfl fTrG 0 ?_
    refine fa rfl fL 1 ?_
    refine ld rfl rfl tyZss rfl ?_
    refine ln slZss rfl ?_
    refine mv rfl ?_
    refine ⟨by kernel_rfl, ?_⟩
    refine nx (sl 2 rfl (sl 4 rfl (sl 38 rfl (sl 39 rfl (sl 40 rfl sn))))) (el 10 rfl (el 11 rfl (el 215 rfl (el 9 rfl en)))) ?_
    refine tri_block ?_
    refine tri_loop (ι := Nat) (fun j => [(2, T.p 11 0), (4, T.p 215 0), (38, T.l (cL (cZi k)) L), (39, T.c (.int .i64 (L.length : Int))), (40, T.c (.int .i64 (j : Int)))]) (fun j => [(11, some (Ent.box 35 [T.c (.slice none 0 0), T.c (.slice none 0 0), T.c (.slice none 0 0), T.c (.bool false), T.c (.slice none 0 0), T.c (.bool false), T.c (.slice none 0 0)])), (215, some (Ent.box 35 [T.l (cZ k) D, T.o 9, T.l (cQi k) ts, T.st [T.Z a k, T.Z b k]])), (9, some (Ent.row (cL (cZ k)) 29 (L.take j)))]) (fun j => L.length - j) (fun j => (j ≤ L.length)) 0 (Nat.zero_le _) (sl 2 rfl (sl 4 rfl (sl 38 rfl (sl 39 rfl (sl 40 rfl sn))))) (el 11 rfl (el 215 rfl (el 9 rfl en))) ?_
    rintro j hj
    refine tri_sub (sl 2 rfl (sl 4 rfl (sl 38 rfl (sl 39 rfl (sl 40 rfl sn))))) (el 11 rfl (el 215 rfl (el 9 rfl en))) ?_
    have htj : (L.take j).length = j := by rw [List.length_take]; omega
    refine tri_seq ?_
    refine tri_reg mixed hcx ?_ _ _
    refine clt rfl rfl rfl ?_
    refine ⟨by kernel_rfl, ?_⟩
    refine nx (sl 2 rfl (sl 4 rfl (sl 38 rfl (sl 39 rfl (sl 40 rfl (sl 41 rfl sn)))))) (el 11 rfl (el 215 rfl (el 9 rfl en))) ?_
    refine tri_seq ?_
    refine tri_if rfl (fun hc => ?_) (fun hc => ?_)
    · have hc2 : j < L.length := by omega
      have hlr := hLr j hc2
      refine tri_skip ?_
      refine nx (sl 2 rfl (sl 4 rfl (sl 38 rfl (sl 39 rfl (sl 40 rfl sn))))) (el 11 rfl (el 215 rfl (el 9 rfl en))) ?_
      refine tri_seq ?_
      refine tri_block ?_
      refine tri_seq ?_
      refine tri_reg mixed hcx ?_ _ _
      refine ix rfl rfl slZss ⟨rfl, by omega⟩ ?_
      refine lf rfl tyZs ?_
      refine asg rfl ?_
      refine ⟨by kernel_rfl, ?_⟩
      refine nx (sl 2 rfl (sl 4 rfl (sl 8 rfl (sl 38 rfl (sl 39 rfl (sl 40 rfl sn)))))) (el 11 rfl (el 215 rfl (el 9 rfl en))) ?_
      refine tri_reg mixed hcx ?_ _ _
      refine fa rfl fTrG 0 ?_
      refine fa rfl fL 1 ?_
      refine ld rfl rfl tyZss rfl ?_
      refine mv rfl ?_
      refine ca rfl (h := w_copied (k := k) hlr hk) (hn := ?_)
      refine bs (c := cL (cZ k)) (xs := [L.getD j (cL (cZi k)).dflt]) slZss rfl ⟨.refl _, trivial⟩ ?_
      refine ap 1216 rfl rfl rfl slZss (by simp only [List.length_cons, List.length_nil]; omega) (by decide) ?_
      refine fa rfl fTrG 0 ?_
      refine fa rfl fL 1 ?_
      refine st rfl rfl rfl tyZss rfl ?_
      refine ⟨by kernel_rfl, ?_⟩
      refine pn_blk ?_
      refine nx (sl 2 rfl (sl 4 rfl (sl 38 rfl (sl 39 rfl (sl 40 rfl sn))))) (el 11 rfl (el 215 rfl (el 1216 rfl en))) ?_
      refine tri_reg mixed hcx ?_ _ _
      refine ad (((j + 1 : Nat) : Int)) rfl rfl rfl (by omega) ?_
      refine mv rfl ?_
      refine ⟨by kernel_rfl, ?_⟩
      refine pn_sub (sl 2 rfl (sl 4 rfl (sl 38 rfl (sl 39 rfl (sl 40 rfl sn))))) (el 11 rfl (el 215 rfl (el 1216 rfl en))) ?_
      refine pn_renb (bl := [T.l (cZ k) D, T.o 1216, T.l (cQi k) ts, T.st [T.Z a k, T.Z b k]]) (bl' := [T.l (cZ k) D, T.o 9, T.l (cQi k) ts, T.st [T.Z a k, T.Z b k]]) 215 9 1216 rfl rfl ⟨.inl ⟨rfl, by show 9 ∉ []; decide⟩, .inr ⟨rfl, rfl⟩, .inl ⟨rfl, by show 9 ∉ []; decide⟩, .inl ⟨rfl, by show 9 ∉ []; decide⟩, trivial⟩ (by rw [hcx]; kernel_rfl) rfl ?_
      exact pn_back (j + 1) (by first | omega | (dsimp only; omega)) (by omega) (sl 2 rfl (sl 4 rfl (sl 38 rfl (sl 39 rfl (sl 40 rfl sn))))) (el 11 rfl (el 215 rfl (ew 9 rfl (.of (by rw [show (cL (cZi k)).dflt = [] from rfl, take_snoc hc2])) en)))
    · refine tri_exit ?_
      repeat (first | refine pn_then ?_ | refine pn_oth (by decide) ?_)
      refine pn_ex ?_
      have hjn : j = L.length := by omega
      refine nx (sl 2 rfl (sl 4 rfl sn)) (el 11 rfl (el 215 rfl (el 9 rfl en))) ?_
      refine tri_seq ?_
      refine tri_fz 9 rfl ?_
      refine tri_rdb (bl := [T.l (cZ k) D, T.o 9, T.l (cQi k) ts, T.st [T.Z a k, T.Z b k]]) (bl' := [T.l (cZ k) D, T.l (cL (cZ k)) (L.take j), T.l (cQi k) ts, T.st [T.Z a k, T.Z b k]]) 215 9 rfl rfl ⟨.inl rfl, .inr ⟨rfl, rfl⟩, .inl rfl, .inl rfl, trivial⟩ ?_
      refine tri_reg mixed hcx ?_ _ _
      refine ld rfl rfl tyTr rfl ?_
      refine sts rfl rfl rfl tyTr rfl ?_
      refine ⟨by kernel_rfl, ?_⟩
      refine nx (sl 2 rfl sn) (el 11 rfl (el 215 rfl en)) ?_
      refine tri_ret ?_
      repeat (first | refine pn_thenr ?_ | refine pn_blkr ?_)
      exact ret1 hcx rfl (rv_cell (c' := cx) (n := 0) rfl rfl tyTr rfl) (tr_flat2.trans (st_le ⟨tl_le (fun z => z_zi z _) _, (T.le.of (by rw [hjn, List.take_length])).trans (IsL.le (c := cL (cZi k))), .refl _, z_zi _ _, z_zi _ _, trivial⟩)) en

theorem w_New {D : List Int} {L : List (List Int)} {ts : List (Int × Int)} {a b : Int} {n k : Nat} (h : TrS D L ts n k) (hb : 0 < b) (ha : 0 ≤ a) (hDl : D.length ≤ 1048576) {root : List Int} (hr : root.length ≤ n)  : Fn Tryz.prog 29 [T.Tr D L ts a b k, T.l (cZi k) root] [] [(600, Ent.box 38 [T.Tr D L ts a b k, T.c (.int .i64 (n : Int)), T.l (cZ k) root, T.Q ((a : Rat) / (b : Rat)) (k + k), T.c (.int .i64 ((0 : Nat) : Int)), T.l (cZ k) [], T.parts, (T.mv 33 (T.p 600 0)), T.any])] [600] (T.tup [T.p 600 0, T.c (.int .i64 0)]) := by
  refine fn_of Tryz.func29 rfl (by show 2 ≤ 46; decide) fun cx hcx => ?_
  refine tri_sub (sl 0 rfl (sl 1 rfl sn)) en ?_
  have hn12 := h.twelve
  have hkk := h.hk
  have hlL := h.len
  have hn0 := h.pos
  have htl : ts.length ≤ 1048576 := by rcases h.tl with q | q <;> omega
  have hrow : ∀ i, i < L.length → (L.getD i []).length ≤ 1048576 := fun i hi => by have := (h.good.2.2.2 i hi).1; omega
  refine tri_seq ?_
  refine tri_reg mixed hcx ?_ _ _
  refine bxs 10 rfl ?_
  refine asg rfl ?_
  refine asg rfl ?_
  refine ⟨by kernel_rfl, ?_⟩
  refine nx (sl 1 rfl (sl 2 rfl sn)) (el 10 rfl en) ?_
  refine tri_seq ?_
  refine tri_seq ?_
  refine tri_reg mixed hcx ?_ _ _
  refine ld rfl rfl tyTr rfl ?_
  refine ca rfl (h := t_Valid h hb ha) (hn := ?_)
  refine asg rfl ?_
  refine ⟨by kernel_rfl, ?_⟩
  refine nx (sl 1 rfl (sl 2 rfl (sl 6 rfl sn))) (el 10 rfl en) ?_
  refine tri_seq ?_
  refine tri_reg mixed hcx ?_ _ _
  refine mv rfl ?_
  refine cne rfl rfl (decide_eq_false (by omega)) ?_
  refine ⟨by kernel_rfl, ?_⟩
  refine nx (sl 1 rfl (sl 2 rfl (sl 6 rfl (sl 11 rfl sn)))) (el 10 rfl en) ?_
  refine tri_false rfl rfl ?_
  refine tri_skip ?_
  refine nx (sl 1 rfl (sl 2 rfl sn)) (el 10 rfl en) ?_
  refine tri_seq ?_
  refine tri_seq ?_
  refine tri_reg mixed hcx ?_ _ _
  refine mv rfl ?_
  refine ln slZs rfl ?_
  refine fa rfl fTrG 0 ?_
  refine fa rfl fL 1 ?_
  refine ld rfl rfl tyZss rfl ?_
  refine ln slZss rfl ?_
  refine cgt rfl rfl (decide_eq_false (by omega)) ?_
  refine ⟨by kernel_rfl, ?_⟩
  refine nx (sl 1 rfl (sl 2 rfl (sl 19 rfl sn))) (el 10 rfl en) ?_
  refine tri_false rfl rfl ?_
  refine tri_skip ?_
  refine nx (sl 1 rfl (sl 2 rfl sn)) (el 10 rfl en) ?_
  refine tri_seq ?_
  refine tri_reg mixed hcx ?_ _ _
  refine ld rfl rfl tyTr rfl ?_
  refine ca rfl (h := w_keep hDl (by omega) hrow htl (by omega)) (hn := ?_)
  refine fa rfl fTrG 0 ?_
  refine fa rfl fL 1 ?_
  refine ld rfl rfl tyZss rfl ?_
  refine ln slZss rfl ?_
  refine mv rfl ?_
  refine ca rfl (h := w_copied (k := k) (by omega) (by omega)) (hn := ?_)
  refine bu stWk rfl ?_
  refine bxs 600 rfl ?_
  refine asg rfl ?_
  refine ⟨by kernel_rfl, ?_⟩
  refine nx (sl 2 rfl (sl 7 rfl sn)) (el 10 rfl (el 600 rfl en)) ?_
  refine tri_seq ?_
  refine tri_reg mixed hcx ?_ _ _
  refine mv rfl ?_
  refine fa rfl fTrR 3 ?_
  refine fa rfl fNum 3 ?_
  refine ld rfl rfl tyZ rfl ?_
  refine fa rfl fTrR 3 ?_
  refine fa rfl fDen 5 ?_
  refine ld rfl rfl tyZ rfl ?_
  refine ca rfl (h := rat_Make (by omega) (by omega) (by omega)) (hn := ?_)
  refine mv rfl ?_
  refine ex rfl rfl ?_
  refine ex rfl rfl ?_
  refine nk rfl ?_
  refine fa rfl fWb 9 ?_
  refine st rfl rfl rfl tyQ rfl ?_
  refine ⟨by kernel_rfl, ?_⟩
  refine nx (sl 7 rfl sn) (el 10 rfl (el 600 rfl en)) ?_
  refine tri_seq ?_
  refine tri_sub (sl 7 rfl sn) (ew 600 rfl (box_parts (A := [T.Tr D L ts a b k, T.c (.int .i64 (L.length : Int)), T.l (cZ k) root, T.Q ((a : Rat) / (b : Rat)) (k + k), T.c (.int .i64 0), T.c (.slice none 0 0)]) (C := [T.c (.bool false), T.c (.slice none 0 0), T.c (.bool false), T.c (.slice none 0 0), T.c (.bool false), T.c (.slice none 0 0), T.c (.bool false), T.c (.slice none 0 0), T.c (.bool false), T.c (.slice none 0 0), T.c (.bool false), T.c (.slice none 0 0), T.c (.bool false), T.c (.slice none 0 0), T.c (.bool false), T.c (.slice none 0 0), T.c (.bool false), T.c (.slice none 0 0), T.c (.bool false), T.c (.slice none 0 0), T.c (.bool false), T.c (.slice none 0 0), T.c (.bool false), T.c (.slice none 0 0), T.c (.bool false), T.c (.slice none 0 0), T.c (.bool false), T.c (.slice none 0 0), T.c (.bool false), T.c (.slice none 0 0), T.c (.bool false), T.c (.slice none 0 0), T.c (.bool false), T.c (.slice none 0 0), T.c (.bool false), T.c (.slice none 0 0), T.c (.bool false), T.c (.slice none 0 0), T.c (.bool false), T.c (.slice none 0 0), T.c (.bool false), T.c (.slice none 0 0), T.c (.bool false), T.c (.slice none 0 0), T.c (.bool false), T.c (.slice none 0 0), T.c (.bool false), T.c (.slice none 0 0), T.c (.bool false), T.c (.slice none 0 0), T.c (.bool false), T.c (.slice none 0 0)]) (B := [T.c .nilFunc, T.c (.string ⟨#[]⟩)]) rfl) en) ?_
  refine tri_sub (sl 7 rfl sn) (ew 600 rfl (box_leL (l' := [T.Tr D L ts a b k, T.c (.int .i64 (n : Int)), T.l (cZ k) root, T.Q ((a : Rat) / (b : Rat)) (k + k), T.c (.int .i64 ((0 : Nat) : Int)), T.l (cZ k) [], T.parts, T.any, T.any]) ⟨.refl _, .of (by rw [h.len]), .refl _, .refl _, .of rfl, nil_l _, .refl _, any_c, any_c, trivial⟩) en) ?_
  refine tri_reg mixed hcx ?_ _ _
  refine mv rfl ?_
  refine cas (hE := rfl) (e := 600) rfl (h := w_be_new) (hn := ?_)
  refine ⟨by kernel_rfl, ?_⟩
  refine nx (sl 7 rfl sn) (el 600 rfl en) ?_
  refine tri_seq ?_
  refine tri_reg mixed hcx ?_ _ _
  refine mv rfl ?_
  refine asg rfl ?_
  refine asg rfl ?_
  refine ⟨by kernel_rfl, ?_⟩
  refine nx (sl 4 rfl (sl 5 rfl sn)) (el 600 rfl en) ?_
  refine tri_ret ?_
  repeat (first | refine pn_thenr ?_ | refine pn_blkr ?_)
  exact ret2 hcx rfl (rv_tmp rfl) (rv_tmp rfl) (.refl _) (el 600 rfl en)
end Go.Proofs.YtekghdfbhbhigaaGreatDoor.V
/- A walk: Run from the root. -/
set_option linter.unusedVariables false
set_option linter.unusedSimpArgs false
set_option maxRecDepth 100000
namespace Go.Proofs.YtekghdfbhbhigaaGreatDoor.V
open Go.RowKit Mt Nml
/-- The step behind i nodes; where the walk stands then. -/
def fW (i : Nat) : FuncId := if i = 0 then 33 else 34
def cW (ns : List (List Int)) (i : Nat) : List Int := if i = 0 then [] else ns.getD (i - 1) []
theorem en_fW (i : Nat) : Enters Tryz.prog (fW i) := by unfold fW; split <;> (intro a w; kernel_rfl)
theorem fW_succ (i : Nat) : fW (i + 1) = 34 := by unfold fW; rw [if_neg (by omega)]
theorem cW_succ (ns : List (List Int)) (i : Nat) : cW ns (i + 1) = ns.getD i [] := by unfold cW; rw [if_neg (by omega)]; rfl
theorem isSome_if {α : Type} {c : Prop} [Decidable c] {x : α} : (if c then some x else none).isSome = decide c := by by_cases h : c <;> simp [h]
theorem w_step {D : List Int} {L : List (List Int)} {ts : List (Int × Int)} {a b : Int} {n k : Nat} (h : TrS D L ts n k) {R : Rat} {kb told i : Nat} {ns : List (List Int)} (hb : 0 < b) (ha : 0 ≤ a) (hkb : kb ≤ 17179869184) (hB : Bel D L ts n k R [] 0 ns) (hi : i ≤ ns.length) : Fn Tryz.prog (fW i) [T.p 600 0] [(600, Ent.box 38 [T.Tr D L ts a b k, T.c (.int .i64 (n : Int)), T.l (cZ k) [], T.Q R kb, T.c (.int .i64 ((told : Nat) : Int)), T.l (cZ k) (cW ns i), T.parts, T.any, T.any])] [(600, Ent.box 38 [T.Tr D L ts a b k, T.c (.int .i64 (n : Int)), T.l (cZ k) [], T.Q R kb, T.c (.int .i64 ((told : Nat) : Int)), T.cu k (if i < ns.length then some (ns.getD i []) else none), T.parts, T.any, T.any])] [] (T.c (.bool (decide (i < ns.length)))) := by
  have hn0 := h.pos
  have hd := rn_at (hB.run (r := 0) rfl (Nat.zero_le _) (Ov.stop [] (Nat.le_refl _))) i hi
  rw [← isSome_if (c := i < ns.length) (x := ns.getD i [])]
  cases i with
  | zero => exact w_begin h hb ha hkb (root := []) (cur := []) (Nat.zero_le _) rfl hd
  | succ i =>
    have hl := hB.len rfl i (by omega)
    rw [fW_succ, cW_succ]
    exact w_down h hb ha hkb (root := []) (by omega) hd

theorem w_Run {D : List Int} {L : List (List Int)} {ts : List (Int × Int)} {a b : Int} {n k : Nat} (h : TrS D L ts n k) (hb : 0 < b) (ha : 0 ≤ a) (hDl : D.length ≤ 1048576) {ns : List (List Int)} {mo : Nat} (hmo : mo ≤ 65536) (hB : Bel D L ts n k ((a : Rat) / (b : Rat)) [] 0 ns) : Fn Tryz.prog 14 [T.Tr D L ts a b k, T.l (cZi k) [], T.c (.int .i64 (mo : Int))] [] [] [] (T.tup [T.l (cL (cZ k)) (ns.take mo), T.c (.bool (decide (ns.length ≤ mo))), T.c (.int .i64 0)]) := by
  refine fn_of Tryz.func14 rfl (by show 3 ≤ 50; decide) fun cx hcx => ?_
  refine tri_sub (sl 0 rfl (sl 1 rfl (sl 2 rfl sn))) en ?_
  have hn12 := h.twelve
  have hkk := h.hk
  have hlL := h.len
  have hn0 := h.pos
  have hk16 := h.hk
  refine tri_seq ?_
  refine tri_reg mixed hcx ?_ _ _
  refine bxs 10 rfl ?_
  refine asg rfl ?_
  refine asg rfl ?_
  refine asg rfl ?_
  refine ⟨by kernel_rfl, ?_⟩
  refine nx (sl 1 rfl (sl 2 rfl (sl 3 rfl sn))) (el 10 rfl en) ?_
  refine tri_seq ?_
  refine tri_reg mixed hcx ?_ _ _
  refine ld rfl rfl tyTr rfl ?_
  refine mv rfl ?_
  refine can (e := 600) rfl (h := w_New (root := []) h hb ha hDl (Nat.zero_le _)) (hn := ?_)
  refine mv rfl ?_
  refine ex rfl rfl ?_
  refine ex rfl rfl ?_
  refine asg rfl ?_
  refine asg rfl ?_
  refine ⟨by kernel_rfl, ?_⟩
  refine nx (sl 2 rfl (sl 9 rfl (sl 10 rfl sn))) (el 10 rfl (el 600 rfl en)) ?_
  refine tri_seq ?_
  refine tri_seq ?_
  refine tri_reg mixed hcx ?_ _ _
  refine mv rfl ?_
  refine ceq rfl rfl (decide_eq_true (by omega)) ?_
  refine mv rfl ?_
  refine mv rfl ?_ (hg := gd1)
  refine clt rfl rfl (decide_eq_false (by omega)) ?_ (hg := gd1)
  refine mv rfl ?_ (hg := gd1)
  refine mv rfl ?_ (hg := gd1)
  refine cgt rfl rfl (decide_eq_false (by omega)) ?_ (hg := gd1)
  refine pk rfl rfl ?_ (hg := gd1)
  refine pk rfl rfl ?_
  refine ⟨by kernel_rfl, ?_⟩
  refine nx (sl 2 rfl (sl 9 rfl (sl 10 rfl (sl 29 rfl sn)))) (el 10 rfl (el 600 rfl en)) ?_
  refine tri_false rfl rfl ?_
  refine tri_skip ?_
  refine nx (sl 2 rfl (sl 9 rfl (sl 10 rfl sn))) (el 10 rfl (el 600 rfl en)) ?_
  refine tri_seq ?_
  refine tri_seq ?_
  refine tri_reg mixed hcx ?_ _ _
  refine mv rfl ?_
  refine cne rfl rfl (decide_eq_false (by omega)) ?_
  refine ⟨by kernel_rfl, ?_⟩
  refine nx (sl 2 rfl (sl 9 rfl (sl 10 rfl (sl 31 rfl sn)))) (el 10 rfl (el 600 rfl en)) ?_
  refine tri_false rfl rfl ?_
  refine tri_skip ?_
  refine nx (sl 2 rfl (sl 9 rfl sn)) (el 10 rfl (el 600 rfl en)) ?_
  refine tri_seq ?_
  refine tri_reg mixed hcx ?_ _ _
  refine asg rfl ?_
  refine ⟨by kernel_rfl, ?_⟩
  refine nx (sl 2 rfl (sl 9 rfl (sl 11 rfl sn))) (el 10 rfl (el 600 rfl en)) ?_
  refine tri_block ?_
  refine tri_nil 11 9 29 (cL (cZ k)) rfl (by rw [hcx]; kernel_rfl) ?_
  refine tri_loop (ι := Nat) (fun i => [(2, T.c (.int .i64 (mo : Int))), (9, T.p 600 0), (11, T.o 9)]) (fun i => [(600, some (Ent.box 38 [T.Tr D L ts a b k, T.c (.int .i64 (n : Int)), T.l (cZ k) [], T.Q ((a : Rat) / (b : Rat)) (k + k), T.c (.int .i64 ((i : Nat) : Int)), T.l (cZ k) (cW ns i), T.parts, (T.mv (fW i) (T.p 600 0)), T.any])), (9, some (Ent.row (cL (cZ k)) 29 (ns.take i)))]) (fun i => ns.length - i) (fun i => (i ≤ ns.length) ∧ (i ≤ mo)) 0 ⟨Nat.zero_le _, Nat.zero_le _⟩ (sl 2 rfl (sl 9 rfl (sl 11 rfl sn))) (el 600 rfl (el 9 rfl en)) ?_
  rintro i ⟨hi, him⟩
  refine tri_sub (sl 2 rfl (sl 9 rfl (sl 11 rfl sn))) (el 600 rfl (el 9 rfl en)) ?_
  have htk : (ns.take i).length = i := by rw [List.length_take]; omega
  refine tri_block ?_
  refine tri_seq ?_
  rcases Nat.lt_or_ge i ns.length with hlt | hge
  · have hl1 := hB.len rfl i hlt
    have hF1 := w_step (told := i) (kb := k + k) h hb ha (by omega) hB hi
    rw [if_pos hlt, decide_eq_true hlt] at hF1
    refine tri_reg mixed hcx ?_ _ _
    refine mv rfl ?_
    refine cas (hE := rfl) (e := 600) rfl (h := w_Next (en_fW i) hF1 (by omega) (by omega) hk16) (hn := ?_)
    refine mv rfl ?_
    refine ex rfl rfl ?_
    refine ex rfl rfl ?_
    refine asg rfl ?_
    refine asg rfl ?_
    refine ⟨by kernel_rfl, ?_⟩
    refine nx (sl 2 rfl (sl 9 rfl (sl 11 rfl (sl 12 rfl (sl 13 rfl sn))))) (el 600 rfl (el 9 rfl en)) ?_
    refine tri_seq ?_
    refine tri_seq ?_
    refine tri_reg mixed hcx ?_ _ _
    refine mv rfl ?_
    refine nt rfl _ rfl ?_
    refine ⟨by kernel_rfl, ?_⟩
    refine nx (sl 2 rfl (sl 9 rfl (sl 11 rfl (sl 12 rfl (sl 39 rfl sn))))) (el 600 rfl (el 9 rfl en)) ?_
    refine tri_false rfl rfl ?_
    refine tri_skip ?_
    refine nx (sl 2 rfl (sl 9 rfl (sl 11 rfl (sl 12 rfl sn)))) (el 600 rfl (el 9 rfl en)) ?_
    refine tri_seq ?_
    refine tri_seq ?_
    refine tri_reg mixed hcx ?_ _ _
    refine mv rfl ?_
    refine lno slZss rfl rfl ?_
    refine mv rfl ?_
    refine ceq rfl rfl rfl ?_
    refine ⟨by kernel_rfl, ?_⟩
    refine nx (sl 2 rfl (sl 9 rfl (sl 11 rfl (sl 12 rfl (sl 44 rfl sn))))) (el 600 rfl (el 9 rfl en)) ?_
    refine tri_if rfl (fun hm => ?_) (fun hm => ?_)
    · refine tri_seq ?_
      refine tri_reg mixed hcx ?_ _ _
      refine mv rfl ?_
      refine asg rfl ?_
      refine asg rfl ?_
      refine asg rfl ?_
      refine ⟨by kernel_rfl, ?_⟩
      refine nx (sl 6 rfl (sl 7 rfl (sl 8 rfl sn))) (el 600 rfl (el 9 rfl en)) ?_
      refine tri_fz 9 rfl ?_
      refine tri_rd 6 9 rfl rfl ?_
      refine tri_ret ?_
      repeat (first | refine pn_thenr ?_ | refine pn_blkr ?_)
      exact ret3 hcx rfl (rv_tmp rfl) (rv_tmp rfl) (rv_tmp rfl) (tup_le ⟨.of (by rw [show i = mo by omega]), .of (by rw [decide_eq_false (by omega)]), .refl _, trivial⟩) en
    · refine tri_skip ?_
      refine nx (sl 2 rfl (sl 9 rfl (sl 11 rfl (sl 12 rfl sn)))) (el 600 rfl (el 9 rfl en)) ?_
      refine tri_reg mixed hcx ?_ _ _
      refine mv rfl ?_
      refine mv rfl ?_
      refine bs (c := cL (cZ k)) (xs := [ns.getD i []]) slZss rfl ⟨.refl _, trivial⟩ ?_
      refine ap 1213 rfl rfl rfl slZss (by simp only [List.length_cons, List.length_nil]; omega) (by decide) ?_
      refine asg rfl ?_
      refine ⟨by kernel_rfl, ?_⟩
      refine pn_blk ?_
      refine pn_sub (sl 2 rfl (sl 9 rfl (sl 11 rfl sn))) (el 600 rfl (el 1213 rfl en)) ?_
      refine pn_ren 11 9 1213 rfl rfl (by rw [hcx]; kernel_rfl) ?_
      exact pn_back (i + 1) (by first | omega | (dsimp only; omega)) (by omega) (sl 2 rfl (sl 9 rfl (sl 11 rfl sn))) (ew 600 rfl (box_leL (l' := [T.Tr D L ts a b k, T.c (.int .i64 (n : Int)), T.l (cZ k) [], T.Q ((a : Rat) / (b : Rat)) (k + k), T.c (.int .i64 (((i + 1) : Nat) : Int)), T.l (cZ k) (cW ns (i + 1)), T.parts, (T.mv (fW (i + 1)) (T.p 600 0)), T.any]) ⟨.refl _, .refl _, .refl _, .refl _, .refl _, .of (by rw [cW_succ]), .refl _, .of (by rw [fW_succ]), .refl _, trivial⟩) (ew 9 rfl (.of (by rw [← take_snoc hlt])) en))
  · have hF1 := w_step (told := i) (kb := k + k) h hb ha (by omega) hB hi
    rw [if_neg (by omega), decide_eq_false (by omega)] at hF1
    refine tri_reg mixed hcx ?_ _ _
    refine mv rfl ?_
    refine cas (hE := rfl) (e := 600) rfl (h := w_Next_no (en_fW i) hF1 hk16) (hn := ?_)
    refine mv rfl ?_
    refine ex rfl rfl ?_
    refine ex rfl rfl ?_
    refine asg rfl ?_
    refine asg rfl ?_
    refine ⟨by kernel_rfl, ?_⟩
    refine nx (sl 2 rfl (sl 9 rfl (sl 11 rfl (sl 12 rfl (sl 13 rfl sn))))) (el 600 rfl (el 9 rfl en)) ?_
    refine tri_seq ?_
    refine tri_seq ?_
    refine tri_reg mixed hcx ?_ _ _
    refine mv rfl ?_
    refine nt rfl _ rfl ?_
    refine ⟨by kernel_rfl, ?_⟩
    refine nx (sl 2 rfl (sl 9 rfl (sl 11 rfl (sl 12 rfl (sl 39 rfl sn))))) (el 600 rfl (el 9 rfl en)) ?_
    refine tri_true rfl rfl ?_
    refine tri_seq ?_
    refine tri_reg mixed hcx ?_ _ _
    refine mv rfl ?_
    refine asg rfl ?_
    refine asg rfl ?_
    refine asg rfl ?_
    refine ⟨by kernel_rfl, ?_⟩
    refine nx (sl 6 rfl (sl 7 rfl (sl 8 rfl sn))) (el 600 rfl (el 9 rfl en)) ?_
    refine tri_fz 9 rfl ?_
    refine tri_rd 6 9 rfl rfl ?_
    refine tri_ret ?_
    repeat (first | refine pn_thenr ?_ | refine pn_blkr ?_)
    exact ret3 hcx rfl (rv_tmp rfl) (rv_tmp rfl) (rv_tmp rfl) (tup_le ⟨.of (by rw [List.take_of_length_le (by omega), List.take_of_length_le (by omega)]), .of (by rw [decide_eq_true (by omega)]), .refl _, trivial⟩) en
end Go.Proofs.YtekghdfbhbhigaaGreatDoor.V
/- A walk: the order of the children. -/
set_option linter.unusedVariables false
set_option linter.unusedSimpArgs false
set_option maxRecDepth 100000
namespace Go.Proofs.YtekghdfbhbhigaaGreatDoor.V
open Go.RowKit Mt Nml
abbrev Dl : List Int := [1, 1]
abbrev Ll : List (List Int) := [[]]
theorem line_T : TrS Dl Ll [] 1 4 where
  good := ⟨by decide, by decide, by decide, fun i hi => by match i, hi with | 0, _ => decide⟩
  len := rfl
  twelve := by decide
  tl := .inl rfl
  tp := fun i hi => absurd hi (Nat.not_lt_zero _)
  zt := fun i hi => absurd hi (Nat.not_lt_zero _)
  zD := fun j => by
    match j with
    | 0 => exact Nat.le_trans zl_one (by decide)
    | 1 => exact Nat.le_trans zl_one (by decide)
    | j + 2 => rw [show Dl.getD (j + 2) 0 = 0 from rfl, zl_zero]; decide
  zL := fun i j => by
    have : ((Ll.getD j [] : List Int).getD i 0) = 0 := by
      match j with
      | 0 => rfl
      | j + 1 => rfl
    rw [this, zl_zero]; decide
  hk := by decide
def lc (j : Nat) : Int := nth (ctT Dl Ll [] [] (1 - 1) (1 - 1 - 0) 0) j
def lchk : Bool := (List.range 4).all fun j => decide (-9 ≤ lc j) && decide (lc j ≤ 9) && (decide (ptT Dl Ll [] ([] ++ [lc j]) (1 - 1) (0 + 1) ≤ ((1 : Int) : Rat) / ((1 : Int) : Rat)) == decide (j < 3))
theorem lchk_ok : lchk = true := by decide +kernel
theorem line_B : Bel Dl Ll [] 1 4 (((1 : Int) : Rat) / ((1 : Int) : Rat)) [] 0 [[0], [1], [-1]] := by
  have hj : ∀ j, j ≤ 3 → (-9 ≤ lc j ∧ lc j ≤ 9) ∧ (ptT Dl Ll [] ([] ++ [lc j]) (1 - 1) (0 + 1) ≤ ((1 : Int) : Rat) / ((1 : Int) : Rat) ↔ j < 3) := fun j hj => by
    have := List.all_eq_true.1 lchk_ok j (by simp; omega)
    simp only [Bool.and_eq_true, decide_eq_true_eq, beq_iff_eq] at this
    obtain ⟨⟨a, b⟩, c⟩ := this
    exact ⟨⟨a, b⟩, decide_eq_decide.1 c⟩
  have hfl : fl [] (nth (ctT Dl Ll [] [] (1 - 1) (1 - 1 - 0) 0)) (fun _ => []) 3 = [[0], [1], [-1]] := by decide +kernel
  rw [← hfl]
  exact Bel.node (D := Dl) (L := Ll) (ts := []) (n := 1) (k := 4) (R := ((1 : Int) : Rat) / ((1 : Int) : Rat)) [] 0 3 (fun _ => []) (by decide) (fun j h => Nat.le_trans (zl_of (by have := (hj j h).1; show -9223372036854775808 ≤ lc j; omega) (by have := (hj j h).1; show lc j < _; omega)) (by decide)) (fun j h => (hj j (by omega)).2.2 h) (fun h => absurd ((hj 3 (Nat.le_refl _)).2.1 h) (Nat.lt_irrefl _)) (fun j _ => Bel.leaf _)

theorem w_Run9 : Fn Tryz.prog 14 [T.Tr [1, 1] [[]] [] 1 1 4, T.c (.slice none 0 0), T.c (.int .i64 9)] [] [] [] (T.tup [T.l (cL (cZ 4)) [[0], [1], [-1]], T.c (.bool true), T.c (.int .i64 0)]) := fn_le (w_Run (mo := 9) line_T (by decide) (by decide) (by decide) (by decide) line_B) ⟨.refl _, nil_l _, .refl _, trivial⟩

theorem l12_line  : Fn Tryz.prog 15 [] [] [] [] (T.Tr [1, 1] [[]] [] 1 1 4) := by
  refine fn_of Tryz.func15 rfl (by show 0 ≤ 22; decide) fun cx hcx => ?_
  refine tri_sub sn en ?_
  refine tri_seq ?_
  refine tri_reg mixed hcx ?_ _ _
  refine nw 10 zeTr ?_
  refine ⟨by kernel_rfl, ?_⟩
  refine nx (sl 0 rfl sn) (el 10 rfl en) ?_
  refine tri_seq ?_
  refine tri_reg mixed hcx ?_ _ _
  refine nw 110 zeTr ?_
  refine ⟨by kernel_rfl, ?_⟩
  refine nx (sl 0 rfl (sl 1 rfl sn)) (el 10 rfl (el 110 rfl en)) ?_
  refine tri_seq ?_
  refine tri_reg mixed hcx ?_ _ _
  refine fa rfl fTrG 0 ?_
  refine fa rfl fD 0 ?_
  refine ld rfl rfl tyZs rfl ?_
  refine ca rfl (h := zi_Of (by omega) (by omega)) (hn := ?_)
  refine ca rfl (h := zi_Of (by omega) (by omega)) (hn := ?_)
  refine bs (c := cZ 4) (xs := [1, 1]) slZs rfl ⟨z_mono (by decide), z_mono (by decide), trivial⟩ ?_
  refine apn (c := cZ 4) 216 rfl rfl slZs (by decide) (by decide) ?_
  refine fa rfl fTrG 0 ?_
  refine fa rfl fD 0 ?_
  refine st rfl rfl rfl tyZs rfl ?_
  refine ⟨by kernel_rfl, ?_⟩
  refine nx (sl 0 rfl (sl 1 rfl sn)) (el 10 rfl (el 110 rfl (el 216 rfl en))) ?_
  refine tri_seq ?_
  refine tri_fz 216 rfl ?_
  refine tri_rdb (bl := [T.o 216, T.c (.slice none 0 0), T.c (.slice none 0 0), T.c (.bool false), T.c (.slice none 0 0), T.c (.bool false), T.c (.slice none 0 0)]) (bl' := [T.l (cZ 4) [1, 1], T.c (.slice none 0 0), T.c (.slice none 0 0), T.c (.bool false), T.c (.slice none 0 0), T.c (.bool false), T.c (.slice none 0 0)]) 110 216 rfl rfl ⟨.inr ⟨rfl, rfl⟩, .inl rfl, .inl rfl, .inl rfl, .inl rfl, .inl rfl, .inl rfl, trivial⟩ ?_
  refine tri_reg mixed hcx ?_ _ _
  refine fa rfl fTrG 0 ?_
  refine fa rfl fL 1 ?_
  refine ld rfl rfl tyZss rfl ?_
  refine bs (c := cL (cZ 4)) (xs := [[]]) slZss rfl ⟨nil_l _, trivial⟩ ?_
  refine apn (c := cL (cZ 4)) 314 rfl rfl slZss (by decide) (by decide) ?_
  refine fa rfl fTrG 0 ?_
  refine fa rfl fL 1 ?_
  refine st rfl rfl rfl tyZss rfl ?_
  refine ⟨by kernel_rfl, ?_⟩
  refine nx (sl 0 rfl (sl 1 rfl sn)) (el 10 rfl (el 110 rfl (el 314 rfl en))) ?_
  refine tri_seq ?_
  refine tri_fz 314 rfl ?_
  refine tri_rdb (bl := [T.l (cZ 4) [1, 1], T.o 314, T.c (.slice none 0 0), T.c (.bool false), T.c (.slice none 0 0), T.c (.bool false), T.c (.slice none 0 0)]) (bl' := [T.l (cZ 4) [1, 1], T.l (cL (cZ 4)) [[]], T.c (.slice none 0 0), T.c (.bool false), T.c (.slice none 0 0), T.c (.bool false), T.c (.slice none 0 0)]) 110 314 rfl rfl ⟨.inl rfl, .inr ⟨rfl, rfl⟩, .inl rfl, .inl rfl, .inl rfl, .inl rfl, .inl rfl, trivial⟩ ?_
  refine tri_reg mixed hcx ?_ _ _
  refine ca rfl (h := zi_Of (by omega) (by omega)) (hn := ?_)
  refine ca rfl (h := rat_Of (by omega)) (hn := ?_)
  refine fa rfl fTrR 3 ?_
  refine st rfl rfl rfl tyQ rfl ?_
  refine ⟨by kernel_rfl, ?_⟩
  refine nx (sl 0 rfl (sl 1 rfl sn)) (el 10 rfl (el 110 rfl en)) ?_
  refine tri_seq ?_
  refine tri_reg mixed hcx ?_ _ _
  refine ld rfl rfl tyTr rfl ?_
  refine sts rfl rfl rfl tyTr rfl ?_
  refine ⟨by kernel_rfl, ?_⟩
  refine nx (sl 0 rfl sn) (el 10 rfl (el 110 rfl en)) ?_
  refine tri_ret ?_
  repeat (first | refine pn_thenr ?_ | refine pn_blkr ?_)
  exact ret1 hcx rfl (rv_cell (c' := cx) (n := 0) rfl rfl tyTr rfl) ((st_le (l := [T.l (cZ 4) [1, 1], T.l (cL (cZ 4)) [[]], T.c (.slice none 0 0), T.Q ((1 : Int) : Rat) 4]) (l' := [T.l (cZi 4) [1, 1], T.l (cL (cZi 4)) [[]], T.l (cQi 4) [], T.st [T.Zi 1 4, T.Zi 1 4]]) ⟨IsL.le (c := cZi 4), IsL.le (c := cL (cZi 4)), nil_l _, q_qi _ (Nat.le_refl _), trivial⟩).trans tr_flat2) en

theorem l12_alive  : Fn Tryz.prog 4 [] [] [] [] (T.c (.bool true)) := by
  refine fn_of Tryz.func4 rfl (by show 0 ≤ 36; decide) fun cx hcx => ?_
  refine tri_sub sn en ?_
  refine tri_seq ?_
  refine tri_reg mixed hcx ?_ _ _
  refine asg rfl ?_
  refine ⟨by kernel_rfl, ?_⟩
  refine nx sn en ?_
  refine tri_seq ?_
  refine tri_reg mixed hcx ?_ _ _
  refine ca rfl (h := l12_line) (hn := ?_)
  refine ca rfl (h := w_Run9) (hn := ?_)
  refine mv rfl ?_
  refine ex rfl rfl ?_
  refine ex rfl rfl ?_
  refine ex rfl rfl ?_
  refine asg rfl ?_
  refine asg rfl ?_
  refine asg rfl ?_
  refine ⟨by kernel_rfl, ?_⟩
  refine nx (sl 1 rfl (sl 2 rfl (sl 3 rfl sn))) en ?_
  refine tri_seq ?_
  refine tri_reg mixed hcx ?_ _ _
  refine mv rfl ?_
  refine ceq rfl rfl rfl ?_
  refine mv rfl ?_
  refine mv rfl ?_ (hg := gd1)
  refine pk rfl rfl ?_
  refine mv rfl ?_
  refine mv rfl ?_ (hg := gd1)
  refine ln slZss rfl ?_ (hg := gd1)
  refine ceq rfl rfl rfl ?_ (hg := gd1)
  refine pk rfl rfl ?_
  refine mv rfl ?_
  refine mv rfl ?_ (hg := gd1)
  refine ix rfl rfl slZss ⟨(rfl : _ = ((2 : Nat) : Int)), by decide⟩ ?_ (hg := gd1)
  refine lf rfl tyZs ?_ (hg := gd1)
  refine ln slZs rfl ?_ (hg := gd1)
  refine ceq rfl rfl rfl ?_ (hg := gd1)
  refine pk rfl rfl ?_
  refine mv rfl ?_
  refine mv rfl ?_ (hg := gd1)
  refine ix rfl rfl slZss ⟨(rfl : _ = ((2 : Nat) : Int)), by decide⟩ ?_ (hg := gd1)
  refine lf rfl tyZs ?_ (hg := gd1)
  refine ix rfl rfl slZs ⟨(rfl : _ = ((0 : Nat) : Int)), by decide⟩ ?_ (hg := gd1)
  refine lf rfl tyZ ?_ (hg := gd1)
  refine ca rfl (h := zi_Sign (by omega)) (hn := ?_) (hg := gd1)
  refine ceq rfl rfl rfl ?_ (hg := gd1)
  refine pk rfl rfl ?_
  refine asg rfl ?_
  refine ⟨by kernel_rfl, ?_⟩
  refine nx (sl 0 rfl sn) en ?_
  refine tri_ret ?_
  repeat (first | refine pn_thenr ?_ | refine pn_blkr ?_)
  exact ret1 hcx rfl (rv_tmp rfl) (.refl _) en

end Go.Proofs.YtekghdfbhbhigaaGreatDoor.V
/- The law of the walk that no call made. -/
set_option linter.unusedVariables false
set_option linter.unusedSimpArgs false
set_option maxRecDepth 100000
namespace Go.Proofs.YtekghdfbhbhigaaGreatDoor.V
open Go.RowKit Mt Nml
theorem zeWk : Zero Tryz.prog 38 [T.c (.slice none 0 0), T.c (.slice none 0 0), T.c (.slice none 0 0), T.c (.bool false), T.c (.slice none 0 0), T.c (.bool false), T.c (.slice none 0 0), T.c (.int .i64 0), T.c (.slice none 0 0), T.c (.bool false), T.c (.slice none 0 0), T.c (.bool false), T.c (.slice none 0 0), T.c (.int .i64 0), T.c (.slice none 0 0), T.c (.bool false), T.c (.slice none 0 0), T.c (.bool false), T.c (.slice none 0 0), T.c (.bool false), T.c (.slice none 0 0), T.c (.bool false), T.c (.slice none 0 0), T.c (.bool false), T.c (.slice none 0 0), T.c (.bool false), T.c (.slice none 0 0), T.c (.bool false), T.c (.slice none 0 0), T.c (.bool false), T.c (.slice none 0 0), T.c (.bool false), T.c (.slice none 0 0), T.c (.bool false), T.c (.slice none 0 0), T.c (.bool false), T.c (.slice none 0 0), T.c (.bool false), T.c (.slice none 0 0), T.c (.bool false), T.c (.slice none 0 0), T.c (.bool false), T.c (.slice none 0 0), T.c (.bool false), T.c (.slice none 0 0), T.c (.bool false), T.c (.slice none 0 0), T.c (.bool false), T.c (.slice none 0 0), T.c (.bool false), T.c (.slice none 0 0), T.c (.bool false), T.c (.slice none 0 0), T.c (.bool false), T.c (.slice none 0 0), T.c (.bool false), T.c (.slice none 0 0), T.c (.bool false), T.c (.slice none 0 0), T.c (.bool false), T.c (.slice none 0 0), T.c (.bool false), T.c (.slice none 0 0), T.c (.bool false), T.c (.slice none 0 0), T.c (.bool false), T.c (.slice none 0 0), T.c (.nilFunc), T.c (.string ⟨#[]⟩)] := zero_of (zs := [.slice none 0 0, .slice none 0 0, .slice none 0 0, .bool false, .slice none 0 0, .bool false, .slice none 0 0, .int .i64 0, .slice none 0 0, .bool false, .slice none 0 0, .bool false, .slice none 0 0, .int .i64 0, .slice none 0 0, .bool false, .slice none 0 0, .bool false, .slice none 0 0, .bool false, .slice none 0 0, .bool false, .slice none 0 0, .bool false, .slice none 0 0, .bool false, .slice none 0 0, .bool false, .slice none 0 0, .bool false, .slice none 0 0, .bool false, .slice none 0 0, .bool false, .slice none 0 0, .bool false, .slice none 0 0, .bool false, .slice none 0 0, .bool false, .slice none 0 0, .bool false, .slice none 0 0, .bool false, .slice none 0 0, .bool false, .slice none 0 0, .bool false, .slice none 0 0, .bool false, .slice none 0 0, .bool false, .slice none 0 0, .bool false, .slice none 0 0, .bool false, .slice none 0 0, .bool false, .slice none 0 0, .bool false, .slice none 0 0, .bool false, .slice none 0 0, .bool false, .slice none 0 0, .bool false, .slice none 0 0, .nilFunc, .string ⟨#[]⟩]) (z := .agg #[.slice none 0 0, .slice none 0 0, .slice none 0 0, .bool false, .slice none 0 0, .bool false, .slice none 0 0, .int .i64 0, .slice none 0 0, .bool false, .slice none 0 0, .bool false, .slice none 0 0, .int .i64 0, .slice none 0 0, .bool false, .slice none 0 0, .bool false, .slice none 0 0, .bool false, .slice none 0 0, .bool false, .slice none 0 0, .bool false, .slice none 0 0, .bool false, .slice none 0 0, .bool false, .slice none 0 0, .bool false, .slice none 0 0, .bool false, .slice none 0 0, .bool false, .slice none 0 0, .bool false, .slice none 0 0, .bool false, .slice none 0 0, .bool false, .slice none 0 0, .bool false, .slice none 0 0, .bool false, .slice none 0 0, .bool false, .slice none 0 0, .bool false, .slice none 0 0, .bool false, .slice none 0 0, .bool false, .slice none 0 0, .bool false, .slice none 0 0, .bool false, .slice none 0 0, .bool false, .slice none 0 0, .bool false, .slice none 0 0, .bool false, .slice none 0 0, .bool false, .slice none 0 0, .bool false, .slice none 0 0, .nilFunc, .string ⟨#[]⟩]) (by kernel_rfl)
section
variable {P : Program} {ops : Array Oper} {fin : List OpS → List (Nat × T) → List (Nat × Option Ent) → Prop} {r : List Oper} {H : List OpS} {g : List (Nat × T)} {E : List (Nat × Option Ent)}
variable {t : Option Nat} {ty : TypeId} {ps : String} {af : Array Edge} {gd : Option (Nat × Bool)} {x y : Operand}
/-- No function is none. -/
theorem fnn {t1 t2 : TypeId} {ps' rs' : Array TypeId} {vv : Bool} (hX : envl g x = some (T.c .nilFunc)) (hY : envl g y = some (T.c .nilFunc)) (hu : P.underlying t1 = some (.func ps' rs' vv)) (hn : J P ops fin r (OpS.p (T.c (.bool true)) :: H) (putg t (T.c (.bool true)) g) E) (hg : GuardIs ops g ⟨t, .binOp .eql t1 x y t2, ty, ps, af, gd⟩ true := by exact gd0) : J P ops fin (⟨t, .binOp .eql t1 x y t2, ty, ps, af, gd⟩ :: r) H g E :=
  j_val hg (ok_pure fun ρ β u w F hs he hH => by
    have h2 : ρ x = .nilFunc := he x (by simp [Op.operands]) _ hX
    have h3 : ρ y = .nilFunc := he y (by simp [Op.operands]) _ hY
    have : (Op.equalIn Op.maxDepth t1 .nilFunc .nilFunc).run P w = .ok true w := by
      unfold Op.maxDepth
      unfold Op.equalIn
      rw [Sem.run_bind, run_underlying hu w]
      rfl
    exact ⟨.bool true, by simp [execOp, h2, h3, eqGuard, binOp, Op.equal, this], rfl⟩) hn
end

theorem wz_none_n  : Fn Tryz.prog 17 [T.c (.pointer none)] [] [] [] (T.c (.bool true)) := by
  refine fn_of Tryz.func17 rfl (by show 1 ≤ 12; decide) fun cx hcx => ?_
  refine tri_sub (sl 0 rfl sn) en ?_
  refine tri_seq ?_
  refine tri_reg mixed hcx ?_ _ _
  refine asg rfl ?_
  refine ⟨by kernel_rfl, ?_⟩
  refine nx (sl 0 rfl sn) en ?_
  refine tri_seq ?_
  refine tri_reg mixed hcx ?_ _ _
  refine mv rfl ?_
  refine pqn rfl rfl uPW ?_
  refine mv rfl ?_
  refine j_off rfl rfl rfl rfl ?_
  refine j_off rfl rfl rfl rfl ?_
  refine j_off rfl rfl rfl rfl ?_
  refine j_off rfl rfl rfl rfl ?_
  refine j_off rfl rfl rfl rfl ?_
  refine pk rfl rfl ?_
  refine asg rfl ?_
  refine ⟨by kernel_rfl, ?_⟩
  refine nx (sl 2 rfl sn) en ?_
  refine tri_ret ?_
  repeat (first | refine pn_thenr ?_ | refine pn_blkr ?_)
  exact ret1 hcx rfl (rv_tmp rfl) (.refl _) en

theorem wz_Next_n  : Fn Tryz.prog 5 [T.c (.pointer none)] [] [] [] (T.tup [T.c (.slice none 0 0), T.c (.bool false)]) := by
  refine fn_of Tryz.func5 rfl (by show 1 ≤ 31; decide) fun cx hcx => ?_
  refine tri_sub (sl 0 rfl sn) en ?_
  refine tri_seq ?_
  refine tri_reg mixed hcx ?_ _ _
  refine asg rfl ?_
  refine asg rfl ?_
  refine ⟨by kernel_rfl, ?_⟩
  refine nx (sl 0 rfl sn) en ?_
  refine tri_seq ?_
  refine tri_seq ?_
  refine tri_reg mixed hcx ?_ _ _
  refine mv rfl ?_
  refine ca rfl (h := wz_none_n) (hn := ?_)
  refine ⟨by kernel_rfl, ?_⟩
  refine nx (sl 0 rfl (sl 5 rfl sn)) en ?_
  refine tri_true rfl rfl ?_
  refine tri_seq ?_
  refine tri_reg mixed hcx ?_ _ _
  refine asg rfl ?_
  refine asg rfl ?_
  refine ⟨by kernel_rfl, ?_⟩
  refine nx (sl 2 rfl (sl 3 rfl sn)) en ?_
  refine tri_ret ?_
  repeat (first | refine pn_thenr ?_ | refine pn_blkr ?_)
  exact ret2 hcx rfl (rv_tmp rfl) (rv_tmp rfl) (.refl _) en

theorem wz_Part_n  : Fn Tryz.prog 6 [T.c (.pointer none)] [] [] [] (T.tup [T.st [T.c (.bool false), T.c (.slice none 0 0), T.c (.bool false), T.c (.slice none 0 0)], T.c (.bool false)]) := by
  refine fn_of Tryz.func6 rfl (by show 1 ≤ 26; decide) fun cx hcx => ?_
  refine tri_sub (sl 0 rfl sn) en ?_
  refine tri_seq ?_
  refine tri_reg mixed hcx ?_ _ _
  refine nw 10 zeQ ?_
  refine asg rfl ?_
  refine ⟨by kernel_rfl, ?_⟩
  refine nx (sl 0 rfl (sl 2 rfl sn)) (el 10 rfl en) ?_
  refine tri_seq ?_
  refine tri_seq ?_
  refine tri_reg mixed hcx ?_ _ _
  refine mv rfl ?_
  refine ca rfl (h := wz_none_n) (hn := ?_)
  refine ⟨by kernel_rfl, ?_⟩
  refine nx (sl 0 rfl (sl 2 rfl (sl 7 rfl sn))) (el 10 rfl en) ?_
  refine tri_true rfl rfl ?_
  refine tri_seq ?_
  refine tri_reg mixed hcx ?_ _ _
  refine bu stQ rfl ?_
  refine sts rfl rfl rfl tyQ rfl ?_
  refine asg rfl ?_
  refine ⟨by kernel_rfl, ?_⟩
  refine nx (sl 2 rfl (sl 3 rfl sn)) (el 10 rfl en) ?_
  refine tri_ret ?_
  repeat (first | refine pn_thenr ?_ | refine pn_blkr ?_)
  exact ret2 hcx rfl (rv_cell (c' := cx) (n := 0) rfl rfl tyQ rfl) (rv_tmp rfl) (.refl _) en

theorem wz_Shrink_n {a b : Int} {k : Nat}  : Fn Tryz.prog 8 [T.c (.pointer none), T.Qi a b k] [] [] [] (T.c (.int .i64 7)) := by
  refine fn_of Tryz.func8 rfl (by show 2 ≤ 41; decide) fun cx hcx => ?_
  refine tri_sub (sl 0 rfl (sl 1 rfl sn)) en ?_
  refine tri_seq ?_
  refine tri_reg mixed hcx ?_ _ _
  refine bxs 10 rfl ?_
  refine asg rfl ?_
  refine ⟨by kernel_rfl, ?_⟩
  refine nx (sl 0 rfl (sl 3 rfl sn)) (el 10 rfl en) ?_
  refine tri_seq ?_
  refine tri_seq ?_
  refine tri_reg mixed hcx ?_ _ _
  refine mv rfl ?_
  refine ca rfl (h := wz_none_n) (hn := ?_)
  refine ⟨by kernel_rfl, ?_⟩
  refine nx (sl 0 rfl (sl 3 rfl (sl 8 rfl sn))) (el 10 rfl en) ?_
  refine tri_true rfl rfl ?_
  refine tri_seq ?_
  refine tri_reg mixed hcx ?_ _ _
  refine asg rfl ?_
  refine ⟨by kernel_rfl, ?_⟩
  refine nx (sl 4 rfl sn) (el 10 rfl en) ?_
  refine tri_ret ?_
  repeat (first | refine pn_thenr ?_ | refine pn_blkr ?_)
  exact ret1 hcx rfl (rv_tmp rfl) (.refl _) en

theorem wz_Skip_n  : Fn Tryz.prog 9 [T.c (.pointer none)] [] [] [] (T.c (.int .i64 7)) := by
  refine fn_of Tryz.func9 rfl (by show 1 ≤ 10; decide) fun cx hcx => ?_
  refine tri_sub (sl 0 rfl sn) en ?_
  refine tri_seq ?_
  refine tri_reg mixed hcx ?_ _ _
  refine asg rfl ?_
  refine ⟨by kernel_rfl, ?_⟩
  refine nx (sl 0 rfl sn) en ?_
  refine tri_seq ?_
  refine tri_seq ?_
  refine tri_reg mixed hcx ?_ _ _
  refine mv rfl ?_
  refine ca rfl (h := wz_none_n) (hn := ?_)
  refine ⟨by kernel_rfl, ?_⟩
  refine nx (sl 0 rfl (sl 4 rfl sn)) en ?_
  refine tri_true rfl rfl ?_
  refine tri_seq ?_
  refine tri_reg mixed hcx ?_ _ _
  refine asg rfl ?_
  refine ⟨by kernel_rfl, ?_⟩
  refine nx (sl 2 rfl sn) en ?_
  refine tri_ret ?_
  repeat (first | refine pn_thenr ?_ | refine pn_blkr ?_)
  exact ret1 hcx rfl (rv_tmp rfl) (.refl _) en

theorem wz_Bound_n  : Fn Tryz.prog 10 [T.c (.pointer none)] [] [] [] (T.st [T.c (.bool false), T.c (.slice none 0 0), T.c (.bool false), T.c (.slice none 0 0)]) := by
  refine fn_of Tryz.func10 rfl (by show 1 ≤ 23; decide) fun cx hcx => ?_
  refine tri_sub (sl 0 rfl sn) en ?_
  refine tri_seq ?_
  refine tri_reg mixed hcx ?_ _ _
  refine nw 10 zeQ ?_
  refine ⟨by kernel_rfl, ?_⟩
  refine nx (sl 0 rfl (sl 2 rfl sn)) (el 10 rfl en) ?_
  refine tri_seq ?_
  refine tri_seq ?_
  refine tri_reg mixed hcx ?_ _ _
  refine mv rfl ?_
  refine ca rfl (h := wz_none_n) (hn := ?_)
  refine ⟨by kernel_rfl, ?_⟩
  refine nx (sl 0 rfl (sl 2 rfl (sl 6 rfl sn))) (el 10 rfl en) ?_
  refine tri_true rfl rfl ?_
  refine tri_seq ?_
  refine tri_reg mixed hcx ?_ _ _
  refine bu stQ rfl ?_
  refine sts rfl rfl rfl tyQ rfl ?_
  refine ⟨by kernel_rfl, ?_⟩
  refine nx (sl 2 rfl sn) (el 10 rfl en) ?_
  refine tri_ret ?_
  repeat (first | refine pn_thenr ?_ | refine pn_blkr ?_)
  exact ret1 hcx rfl (rv_cell (c' := cx) (n := 0) rfl rfl tyQ rfl) (.refl _) en

theorem wz_Told_n  : Fn Tryz.prog 11 [T.c (.pointer none)] [] [] [] (T.c (.int .i64 0)) := by
  refine fn_of Tryz.func11 rfl (by show 1 ≤ 9; decide) fun cx hcx => ?_
  refine tri_sub (sl 0 rfl sn) en ?_
  refine tri_seq ?_
  refine tri_reg mixed hcx ?_ _ _
  refine asg rfl ?_
  refine ⟨by kernel_rfl, ?_⟩
  refine nx (sl 0 rfl sn) en ?_
  refine tri_seq ?_
  refine tri_seq ?_
  refine tri_reg mixed hcx ?_ _ _
  refine mv rfl ?_
  refine ca rfl (h := wz_none_n) (hn := ?_)
  refine ⟨by kernel_rfl, ?_⟩
  refine nx (sl 0 rfl (sl 4 rfl sn)) en ?_
  refine tri_true rfl rfl ?_
  refine tri_seq ?_
  refine tri_reg mixed hcx ?_ _ _
  refine asg rfl ?_
  refine ⟨by kernel_rfl, ?_⟩
  refine nx (sl 2 rfl sn) en ?_
  refine tri_ret ?_
  repeat (first | refine pn_thenr ?_ | refine pn_blkr ?_)
  exact ret1 hcx rfl (rv_tmp rfl) (.refl _) en

theorem wz_Fork_n  : Fn Tryz.prog 12 [T.c (.pointer none)] [] [] [] (T.c (.pointer none)) := by
  refine fn_of Tryz.func12 rfl (by show 1 ≤ 45; decide) fun cx hcx => ?_
  refine tri_sub (sl 0 rfl sn) en ?_
  refine tri_seq ?_
  refine tri_reg mixed hcx ?_ _ _
  refine asg rfl ?_
  refine ⟨by kernel_rfl, ?_⟩
  refine nx (sl 0 rfl sn) en ?_
  refine tri_seq ?_
  refine tri_seq ?_
  refine tri_reg mixed hcx ?_ _ _
  refine mv rfl ?_
  refine ca rfl (h := wz_none_n) (hn := ?_)
  refine ⟨by kernel_rfl, ?_⟩
  refine nx (sl 0 rfl (sl 5 rfl sn)) en ?_
  refine tri_true rfl rfl ?_
  refine tri_seq ?_
  refine tri_reg mixed hcx ?_ _ _
  refine asg rfl ?_
  refine ⟨by kernel_rfl, ?_⟩
  refine nx (sl 2 rfl sn) en ?_
  refine tri_ret ?_
  repeat (first | refine pn_thenr ?_ | refine pn_blkr ?_)
  exact ret1 hcx rfl (rv_tmp rfl) (.refl _) en

theorem wz_Save_n  : Fn Tryz.prog 13 [T.c (.pointer none)] [] [] [] (T.c (.string ⟨#[]⟩)) := by
  refine fn_of Tryz.func13 rfl (by show 1 ≤ 78; decide) fun cx hcx => ?_
  refine tri_sub (sl 0 rfl sn) en ?_
  refine tri_seq ?_
  refine tri_reg mixed hcx ?_ _ _
  refine asg rfl ?_
  refine ⟨by kernel_rfl, ?_⟩
  refine nx (sl 0 rfl sn) en ?_
  refine tri_seq ?_
  refine tri_seq ?_
  refine tri_reg mixed hcx ?_ _ _
  refine mv rfl ?_
  refine ca rfl (h := wz_none_n) (hn := ?_)
  refine ⟨by kernel_rfl, ?_⟩
  refine nx (sl 0 rfl (sl 11 rfl sn)) en ?_
  refine tri_true rfl rfl ?_
  refine tri_seq ?_
  refine tri_reg mixed hcx ?_ _ _
  refine asg rfl ?_
  refine ⟨by kernel_rfl, ?_⟩
  refine nx (sl 2 rfl sn) en ?_
  refine tri_ret ?_
  repeat (first | refine pn_thenr ?_ | refine pn_blkr ?_)
  exact ret1 hcx rfl (rv_tmp rfl) (.refl _) en

theorem wz_none_z  : Fn Tryz.prog 17 [T.fp (T.st [T.c (.slice none 0 0), T.c (.slice none 0 0), T.c (.slice none 0 0), T.c (.bool false), T.c (.slice none 0 0), T.c (.bool false), T.c (.slice none 0 0), T.c (.int .i64 0), T.c (.slice none 0 0), T.c (.bool false), T.c (.slice none 0 0), T.c (.bool false), T.c (.slice none 0 0), T.c (.int .i64 0), T.c (.slice none 0 0), T.c (.bool false), T.c (.slice none 0 0), T.c (.bool false), T.c (.slice none 0 0), T.c (.bool false), T.c (.slice none 0 0), T.c (.bool false), T.c (.slice none 0 0), T.c (.bool false), T.c (.slice none 0 0), T.c (.bool false), T.c (.slice none 0 0), T.c (.bool false), T.c (.slice none 0 0), T.c (.bool false), T.c (.slice none 0 0), T.c (.bool false), T.c (.slice none 0 0), T.c (.bool false), T.c (.slice none 0 0), T.c (.bool false), T.c (.slice none 0 0), T.c (.bool false), T.c (.slice none 0 0), T.c (.bool false), T.c (.slice none 0 0), T.c (.bool false), T.c (.slice none 0 0), T.c (.bool false), T.c (.slice none 0 0), T.c (.bool false), T.c (.slice none 0 0), T.c (.bool false), T.c (.slice none 0 0), T.c (.bool false), T.c (.slice none 0 0), T.c (.bool false), T.c (.slice none 0 0), T.c (.bool false), T.c (.slice none 0 0), T.c (.bool false), T.c (.slice none 0 0), T.c (.bool false), T.c (.slice none 0 0), T.c (.bool false), T.c (.slice none 0 0), T.c (.bool false), T.c (.slice none 0 0), T.c (.bool false), T.c (.slice none 0 0), T.c (.bool false), T.c (.slice none 0 0), T.c (.nilFunc), T.c (.string ⟨#[]⟩)])] [] [] [] (T.c (.bool true)) := by
  refine fn_of Tryz.func17 rfl (by show 1 ≤ 12; decide) fun cx hcx => ?_
  refine tri_sub (sl 0 rfl sn) en ?_
  refine tri_seq ?_
  refine tri_reg mixed hcx ?_ _ _
  refine asg rfl ?_
  refine ⟨by kernel_rfl, ?_⟩
  refine nx (sl 0 rfl sn) en ?_
  refine tri_seq ?_
  refine tri_reg mixed hcx ?_ _ _
  refine mv rfl ?_
  refine peq rfl rfl uPW ?_
  refine mv rfl ?_
  refine mv rfl ?_ (hg := gd1)
  refine nk rfl ?_ (hg := gd1)
  refine ff rfl fWs rfl ?_ (hg := gd1)
  refine lf rfl tyFb ?_ (hg := gd1)
  refine fnn rfl rfl uFb ?_ (hg := gd1)
  refine pk rfl rfl ?_
  refine asg rfl ?_
  refine ⟨by kernel_rfl, ?_⟩
  refine nx (sl 2 rfl sn) en ?_
  refine tri_ret ?_
  repeat (first | refine pn_thenr ?_ | refine pn_blkr ?_)
  exact ret1 hcx rfl (rv_tmp rfl) (.refl _) en

theorem wz_Next_z  : Fn Tryz.prog 5 [T.fp (T.st [T.c (.slice none 0 0), T.c (.slice none 0 0), T.c (.slice none 0 0), T.c (.bool false), T.c (.slice none 0 0), T.c (.bool false), T.c (.slice none 0 0), T.c (.int .i64 0), T.c (.slice none 0 0), T.c (.bool false), T.c (.slice none 0 0), T.c (.bool false), T.c (.slice none 0 0), T.c (.int .i64 0), T.c (.slice none 0 0), T.c (.bool false), T.c (.slice none 0 0), T.c (.bool false), T.c (.slice none 0 0), T.c (.bool false), T.c (.slice none 0 0), T.c (.bool false), T.c (.slice none 0 0), T.c (.bool false), T.c (.slice none 0 0), T.c (.bool false), T.c (.slice none 0 0), T.c (.bool false), T.c (.slice none 0 0), T.c (.bool false), T.c (.slice none 0 0), T.c (.bool false), T.c (.slice none 0 0), T.c (.bool false), T.c (.slice none 0 0), T.c (.bool false), T.c (.slice none 0 0), T.c (.bool false), T.c (.slice none 0 0), T.c (.bool false), T.c (.slice none 0 0), T.c (.bool false), T.c (.slice none 0 0), T.c (.bool false), T.c (.slice none 0 0), T.c (.bool false), T.c (.slice none 0 0), T.c (.bool false), T.c (.slice none 0 0), T.c (.bool false), T.c (.slice none 0 0), T.c (.bool false), T.c (.slice none 0 0), T.c (.bool false), T.c (.slice none 0 0), T.c (.bool false), T.c (.slice none 0 0), T.c (.bool false), T.c (.slice none 0 0), T.c (.bool false), T.c (.slice none 0 0), T.c (.bool false), T.c (.slice none 0 0), T.c (.bool false), T.c (.slice none 0 0), T.c (.bool false), T.c (.slice none 0 0), T.c (.nilFunc), T.c (.string ⟨#[]⟩)])] [] [] [] (T.tup [T.c (.slice none 0 0), T.c (.bool false)]) := by
  refine fn_of Tryz.func5 rfl (by show 1 ≤ 31; decide) fun cx hcx => ?_
  refine tri_sub (sl 0 rfl sn) en ?_
  refine tri_seq ?_
  refine tri_reg mixed hcx ?_ _ _
  refine asg rfl ?_
  refine asg rfl ?_
  refine ⟨by kernel_rfl, ?_⟩
  refine nx (sl 0 rfl sn) en ?_
  refine tri_seq ?_
  refine tri_seq ?_
  refine tri_reg mixed hcx ?_ _ _
  refine mv rfl ?_
  refine ca rfl (h := wz_none_z) (hn := ?_)
  refine ⟨by kernel_rfl, ?_⟩
  refine nx (sl 0 rfl (sl 5 rfl sn)) en ?_
  refine tri_true rfl rfl ?_
  refine tri_seq ?_
  refine tri_reg mixed hcx ?_ _ _
  refine asg rfl ?_
  refine asg rfl ?_
  refine ⟨by kernel_rfl, ?_⟩
  refine nx (sl 2 rfl (sl 3 rfl sn)) en ?_
  refine tri_ret ?_
  repeat (first | refine pn_thenr ?_ | refine pn_blkr ?_)
  exact ret2 hcx rfl (rv_tmp rfl) (rv_tmp rfl) (.refl _) en

theorem wz_Part_z  : Fn Tryz.prog 6 [T.fp (T.st [T.c (.slice none 0 0), T.c (.slice none 0 0), T.c (.slice none 0 0), T.c (.bool false), T.c (.slice none 0 0), T.c (.bool false), T.c (.slice none 0 0), T.c (.int .i64 0), T.c (.slice none 0 0), T.c (.bool false), T.c (.slice none 0 0), T.c (.bool false), T.c (.slice none 0 0), T.c (.int .i64 0), T.c (.slice none 0 0), T.c (.bool false), T.c (.slice none 0 0), T.c (.bool false), T.c (.slice none 0 0), T.c (.bool false), T.c (.slice none 0 0), T.c (.bool false), T.c (.slice none 0 0), T.c (.bool false), T.c (.slice none 0 0), T.c (.bool false), T.c (.slice none 0 0), T.c (.bool false), T.c (.slice none 0 0), T.c (.bool false), T.c (.slice none 0 0), T.c (.bool false), T.c (.slice none 0 0), T.c (.bool false), T.c (.slice none 0 0), T.c (.bool false), T.c (.slice none 0 0), T.c (.bool false), T.c (.slice none 0 0), T.c (.bool false), T.c (.slice none 0 0), T.c (.bool false), T.c (.slice none 0 0), T.c (.bool false), T.c (.slice none 0 0), T.c (.bool false), T.c (.slice none 0 0), T.c (.bool false), T.c (.slice none 0 0), T.c (.bool false), T.c (.slice none 0 0), T.c (.bool false), T.c (.slice none 0 0), T.c (.bool false), T.c (.slice none 0 0), T.c (.bool false), T.c (.slice none 0 0), T.c (.bool false), T.c (.slice none 0 0), T.c (.bool false), T.c (.slice none 0 0), T.c (.bool false), T.c (.slice none 0 0), T.c (.bool false), T.c (.slice none 0 0), T.c (.bool false), T.c (.slice none 0 0), T.c (.nilFunc), T.c (.string ⟨#[]⟩)])] [] [] [] (T.tup [T.st [T.c (.bool false), T.c (.slice none 0 0), T.c (.bool false), T.c (.slice none 0 0)], T.c (.bool false)]) := by
  refine fn_of Tryz.func6 rfl (by show 1 ≤ 26; decide) fun cx hcx => ?_
  refine tri_sub (sl 0 rfl sn) en ?_
  refine tri_seq ?_
  refine tri_reg mixed hcx ?_ _ _
  refine nw 10 zeQ ?_
  refine asg rfl ?_
  refine ⟨by kernel_rfl, ?_⟩
  refine nx (sl 0 rfl (sl 2 rfl sn)) (el 10 rfl en) ?_
  refine tri_seq ?_
  refine tri_seq ?_
  refine tri_reg mixed hcx ?_ _ _
  refine mv rfl ?_
  refine ca rfl (h := wz_none_z) (hn := ?_)
  refine ⟨by kernel_rfl, ?_⟩
  refine nx (sl 0 rfl (sl 2 rfl (sl 7 rfl sn))) (el 10 rfl en) ?_
  refine tri_true rfl rfl ?_
  refine tri_seq ?_
  refine tri_reg mixed hcx ?_ _ _
  refine bu stQ rfl ?_
  refine sts rfl rfl rfl tyQ rfl ?_
  refine asg rfl ?_
  refine ⟨by kernel_rfl, ?_⟩
  refine nx (sl 2 rfl (sl 3 rfl sn)) (el 10 rfl en) ?_
  refine tri_ret ?_
  repeat (first | refine pn_thenr ?_ | refine pn_blkr ?_)
  exact ret2 hcx rfl (rv_cell (c' := cx) (n := 0) rfl rfl tyQ rfl) (rv_tmp rfl) (.refl _) en

theorem wz_Shrink_z {a b : Int} {k : Nat}  : Fn Tryz.prog 8 [T.fp (T.st [T.c (.slice none 0 0), T.c (.slice none 0 0), T.c (.slice none 0 0), T.c (.bool false), T.c (.slice none 0 0), T.c (.bool false), T.c (.slice none 0 0), T.c (.int .i64 0), T.c (.slice none 0 0), T.c (.bool false), T.c (.slice none 0 0), T.c (.bool false), T.c (.slice none 0 0), T.c (.int .i64 0), T.c (.slice none 0 0), T.c (.bool false), T.c (.slice none 0 0), T.c (.bool false), T.c (.slice none 0 0), T.c (.bool false), T.c (.slice none 0 0), T.c (.bool false), T.c (.slice none 0 0), T.c (.bool false), T.c (.slice none 0 0), T.c (.bool false), T.c (.slice none 0 0), T.c (.bool false), T.c (.slice none 0 0), T.c (.bool false), T.c (.slice none 0 0), T.c (.bool false), T.c (.slice none 0 0), T.c (.bool false), T.c (.slice none 0 0), T.c (.bool false), T.c (.slice none 0 0), T.c (.bool false), T.c (.slice none 0 0), T.c (.bool false), T.c (.slice none 0 0), T.c (.bool false), T.c (.slice none 0 0), T.c (.bool false), T.c (.slice none 0 0), T.c (.bool false), T.c (.slice none 0 0), T.c (.bool false), T.c (.slice none 0 0), T.c (.bool false), T.c (.slice none 0 0), T.c (.bool false), T.c (.slice none 0 0), T.c (.bool false), T.c (.slice none 0 0), T.c (.bool false), T.c (.slice none 0 0), T.c (.bool false), T.c (.slice none 0 0), T.c (.bool false), T.c (.slice none 0 0), T.c (.bool false), T.c (.slice none 0 0), T.c (.bool false), T.c (.slice none 0 0), T.c (.bool false), T.c (.slice none 0 0), T.c (.nilFunc), T.c (.string ⟨#[]⟩)]), T.Qi a b k] [] [] [] (T.c (.int .i64 7)) := by
  refine fn_of Tryz.func8 rfl (by show 2 ≤ 41; decide) fun cx hcx => ?_
  refine tri_sub (sl 0 rfl (sl 1 rfl sn)) en ?_
  refine tri_seq ?_
  refine tri_reg mixed hcx ?_ _ _
  refine bxs 10 rfl ?_
  refine asg rfl ?_
  refine ⟨by kernel_rfl, ?_⟩
  refine nx (sl 0 rfl (sl 3 rfl sn)) (el 10 rfl en) ?_
  refine tri_seq ?_
  refine tri_seq ?_
  refine tri_reg mixed hcx ?_ _ _
  refine mv rfl ?_
  refine ca rfl (h := wz_none_z) (hn := ?_)
  refine ⟨by kernel_rfl, ?_⟩
  refine nx (sl 0 rfl (sl 3 rfl (sl 8 rfl sn))) (el 10 rfl en) ?_
  refine tri_true rfl rfl ?_
  refine tri_seq ?_
  refine tri_reg mixed hcx ?_ _ _
  refine asg rfl ?_
  refine ⟨by kernel_rfl, ?_⟩
  refine nx (sl 4 rfl sn) (el 10 rfl en) ?_
  refine tri_ret ?_
  repeat (first | refine pn_thenr ?_ | refine pn_blkr ?_)
  exact ret1 hcx rfl (rv_tmp rfl) (.refl _) en

theorem wz_Skip_z  : Fn Tryz.prog 9 [T.fp (T.st [T.c (.slice none 0 0), T.c (.slice none 0 0), T.c (.slice none 0 0), T.c (.bool false), T.c (.slice none 0 0), T.c (.bool false), T.c (.slice none 0 0), T.c (.int .i64 0), T.c (.slice none 0 0), T.c (.bool false), T.c (.slice none 0 0), T.c (.bool false), T.c (.slice none 0 0), T.c (.int .i64 0), T.c (.slice none 0 0), T.c (.bool false), T.c (.slice none 0 0), T.c (.bool false), T.c (.slice none 0 0), T.c (.bool false), T.c (.slice none 0 0), T.c (.bool false), T.c (.slice none 0 0), T.c (.bool false), T.c (.slice none 0 0), T.c (.bool false), T.c (.slice none 0 0), T.c (.bool false), T.c (.slice none 0 0), T.c (.bool false), T.c (.slice none 0 0), T.c (.bool false), T.c (.slice none 0 0), T.c (.bool false), T.c (.slice none 0 0), T.c (.bool false), T.c (.slice none 0 0), T.c (.bool false), T.c (.slice none 0 0), T.c (.bool false), T.c (.slice none 0 0), T.c (.bool false), T.c (.slice none 0 0), T.c (.bool false), T.c (.slice none 0 0), T.c (.bool false), T.c (.slice none 0 0), T.c (.bool false), T.c (.slice none 0 0), T.c (.bool false), T.c (.slice none 0 0), T.c (.bool false), T.c (.slice none 0 0), T.c (.bool false), T.c (.slice none 0 0), T.c (.bool false), T.c (.slice none 0 0), T.c (.bool false), T.c (.slice none 0 0), T.c (.bool false), T.c (.slice none 0 0), T.c (.bool false), T.c (.slice none 0 0), T.c (.bool false), T.c (.slice none 0 0), T.c (.bool false), T.c (.slice none 0 0), T.c (.nilFunc), T.c (.string ⟨#[]⟩)])] [] [] [] (T.c (.int .i64 7)) := by
  refine fn_of Tryz.func9 rfl (by show 1 ≤ 10; decide) fun cx hcx => ?_
  refine tri_sub (sl 0 rfl sn) en ?_
  refine tri_seq ?_
  refine tri_reg mixed hcx ?_ _ _
  refine asg rfl ?_
  refine ⟨by kernel_rfl, ?_⟩
  refine nx (sl 0 rfl sn) en ?_
  refine tri_seq ?_
  refine tri_seq ?_
  refine tri_reg mixed hcx ?_ _ _
  refine mv rfl ?_
  refine ca rfl (h := wz_none_z) (hn := ?_)
  refine ⟨by kernel_rfl, ?_⟩
  refine nx (sl 0 rfl (sl 4 rfl sn)) en ?_
  refine tri_true rfl rfl ?_
  refine tri_seq ?_
  refine tri_reg mixed hcx ?_ _ _
  refine asg rfl ?_
  refine ⟨by kernel_rfl, ?_⟩
  refine nx (sl 2 rfl sn) en ?_
  refine tri_ret ?_
  repeat (first | refine pn_thenr ?_ | refine pn_blkr ?_)
  exact ret1 hcx rfl (rv_tmp rfl) (.refl _) en

theorem wz_Bound_z  : Fn Tryz.prog 10 [T.fp (T.st [T.c (.slice none 0 0), T.c (.slice none 0 0), T.c (.slice none 0 0), T.c (.bool false), T.c (.slice none 0 0), T.c (.bool false), T.c (.slice none 0 0), T.c (.int .i64 0), T.c (.slice none 0 0), T.c (.bool false), T.c (.slice none 0 0), T.c (.bool false), T.c (.slice none 0 0), T.c (.int .i64 0), T.c (.slice none 0 0), T.c (.bool false), T.c (.slice none 0 0), T.c (.bool false), T.c (.slice none 0 0), T.c (.bool false), T.c (.slice none 0 0), T.c (.bool false), T.c (.slice none 0 0), T.c (.bool false), T.c (.slice none 0 0), T.c (.bool false), T.c (.slice none 0 0), T.c (.bool false), T.c (.slice none 0 0), T.c (.bool false), T.c (.slice none 0 0), T.c (.bool false), T.c (.slice none 0 0), T.c (.bool false), T.c (.slice none 0 0), T.c (.bool false), T.c (.slice none 0 0), T.c (.bool false), T.c (.slice none 0 0), T.c (.bool false), T.c (.slice none 0 0), T.c (.bool false), T.c (.slice none 0 0), T.c (.bool false), T.c (.slice none 0 0), T.c (.bool false), T.c (.slice none 0 0), T.c (.bool false), T.c (.slice none 0 0), T.c (.bool false), T.c (.slice none 0 0), T.c (.bool false), T.c (.slice none 0 0), T.c (.bool false), T.c (.slice none 0 0), T.c (.bool false), T.c (.slice none 0 0), T.c (.bool false), T.c (.slice none 0 0), T.c (.bool false), T.c (.slice none 0 0), T.c (.bool false), T.c (.slice none 0 0), T.c (.bool false), T.c (.slice none 0 0), T.c (.bool false), T.c (.slice none 0 0), T.c (.nilFunc), T.c (.string ⟨#[]⟩)])] [] [] [] (T.st [T.c (.bool false), T.c (.slice none 0 0), T.c (.bool false), T.c (.slice none 0 0)]) := by
  refine fn_of Tryz.func10 rfl (by show 1 ≤ 23; decide) fun cx hcx => ?_
  refine tri_sub (sl 0 rfl sn) en ?_
  refine tri_seq ?_
  refine tri_reg mixed hcx ?_ _ _
  refine nw 10 zeQ ?_
  refine ⟨by kernel_rfl, ?_⟩
  refine nx (sl 0 rfl (sl 2 rfl sn)) (el 10 rfl en) ?_
  refine tri_seq ?_
  refine tri_seq ?_
  refine tri_reg mixed hcx ?_ _ _
  refine mv rfl ?_
  refine ca rfl (h := wz_none_z) (hn := ?_)
  refine ⟨by kernel_rfl, ?_⟩
  refine nx (sl 0 rfl (sl 2 rfl (sl 6 rfl sn))) (el 10 rfl en) ?_
  refine tri_true rfl rfl ?_
  refine tri_seq ?_
  refine tri_reg mixed hcx ?_ _ _
  refine bu stQ rfl ?_
  refine sts rfl rfl rfl tyQ rfl ?_
  refine ⟨by kernel_rfl, ?_⟩
  refine nx (sl 2 rfl sn) (el 10 rfl en) ?_
  refine tri_ret ?_
  repeat (first | refine pn_thenr ?_ | refine pn_blkr ?_)
  exact ret1 hcx rfl (rv_cell (c' := cx) (n := 0) rfl rfl tyQ rfl) (.refl _) en

theorem wz_Told_z  : Fn Tryz.prog 11 [T.fp (T.st [T.c (.slice none 0 0), T.c (.slice none 0 0), T.c (.slice none 0 0), T.c (.bool false), T.c (.slice none 0 0), T.c (.bool false), T.c (.slice none 0 0), T.c (.int .i64 0), T.c (.slice none 0 0), T.c (.bool false), T.c (.slice none 0 0), T.c (.bool false), T.c (.slice none 0 0), T.c (.int .i64 0), T.c (.slice none 0 0), T.c (.bool false), T.c (.slice none 0 0), T.c (.bool false), T.c (.slice none 0 0), T.c (.bool false), T.c (.slice none 0 0), T.c (.bool false), T.c (.slice none 0 0), T.c (.bool false), T.c (.slice none 0 0), T.c (.bool false), T.c (.slice none 0 0), T.c (.bool false), T.c (.slice none 0 0), T.c (.bool false), T.c (.slice none 0 0), T.c (.bool false), T.c (.slice none 0 0), T.c (.bool false), T.c (.slice none 0 0), T.c (.bool false), T.c (.slice none 0 0), T.c (.bool false), T.c (.slice none 0 0), T.c (.bool false), T.c (.slice none 0 0), T.c (.bool false), T.c (.slice none 0 0), T.c (.bool false), T.c (.slice none 0 0), T.c (.bool false), T.c (.slice none 0 0), T.c (.bool false), T.c (.slice none 0 0), T.c (.bool false), T.c (.slice none 0 0), T.c (.bool false), T.c (.slice none 0 0), T.c (.bool false), T.c (.slice none 0 0), T.c (.bool false), T.c (.slice none 0 0), T.c (.bool false), T.c (.slice none 0 0), T.c (.bool false), T.c (.slice none 0 0), T.c (.bool false), T.c (.slice none 0 0), T.c (.bool false), T.c (.slice none 0 0), T.c (.bool false), T.c (.slice none 0 0), T.c (.nilFunc), T.c (.string ⟨#[]⟩)])] [] [] [] (T.c (.int .i64 0)) := by
  refine fn_of Tryz.func11 rfl (by show 1 ≤ 9; decide) fun cx hcx => ?_
  refine tri_sub (sl 0 rfl sn) en ?_
  refine tri_seq ?_
  refine tri_reg mixed hcx ?_ _ _
  refine asg rfl ?_
  refine ⟨by kernel_rfl, ?_⟩
  refine nx (sl 0 rfl sn) en ?_
  refine tri_seq ?_
  refine tri_seq ?_
  refine tri_reg mixed hcx ?_ _ _
  refine mv rfl ?_
  refine ca rfl (h := wz_none_z) (hn := ?_)
  refine ⟨by kernel_rfl, ?_⟩
  refine nx (sl 0 rfl (sl 4 rfl sn)) en ?_
  refine tri_true rfl rfl ?_
  refine tri_seq ?_
  refine tri_reg mixed hcx ?_ _ _
  refine asg rfl ?_
  refine ⟨by kernel_rfl, ?_⟩
  refine nx (sl 2 rfl sn) en ?_
  refine tri_ret ?_
  repeat (first | refine pn_thenr ?_ | refine pn_blkr ?_)
  exact ret1 hcx rfl (rv_tmp rfl) (.refl _) en

theorem wz_Fork_z  : Fn Tryz.prog 12 [T.fp (T.st [T.c (.slice none 0 0), T.c (.slice none 0 0), T.c (.slice none 0 0), T.c (.bool false), T.c (.slice none 0 0), T.c (.bool false), T.c (.slice none 0 0), T.c (.int .i64 0), T.c (.slice none 0 0), T.c (.bool false), T.c (.slice none 0 0), T.c (.bool false), T.c (.slice none 0 0), T.c (.int .i64 0), T.c (.slice none 0 0), T.c (.bool false), T.c (.slice none 0 0), T.c (.bool false), T.c (.slice none 0 0), T.c (.bool false), T.c (.slice none 0 0), T.c (.bool false), T.c (.slice none 0 0), T.c (.bool false), T.c (.slice none 0 0), T.c (.bool false), T.c (.slice none 0 0), T.c (.bool false), T.c (.slice none 0 0), T.c (.bool false), T.c (.slice none 0 0), T.c (.bool false), T.c (.slice none 0 0), T.c (.bool false), T.c (.slice none 0 0), T.c (.bool false), T.c (.slice none 0 0), T.c (.bool false), T.c (.slice none 0 0), T.c (.bool false), T.c (.slice none 0 0), T.c (.bool false), T.c (.slice none 0 0), T.c (.bool false), T.c (.slice none 0 0), T.c (.bool false), T.c (.slice none 0 0), T.c (.bool false), T.c (.slice none 0 0), T.c (.bool false), T.c (.slice none 0 0), T.c (.bool false), T.c (.slice none 0 0), T.c (.bool false), T.c (.slice none 0 0), T.c (.bool false), T.c (.slice none 0 0), T.c (.bool false), T.c (.slice none 0 0), T.c (.bool false), T.c (.slice none 0 0), T.c (.bool false), T.c (.slice none 0 0), T.c (.bool false), T.c (.slice none 0 0), T.c (.bool false), T.c (.slice none 0 0), T.c (.nilFunc), T.c (.string ⟨#[]⟩)])] [] [] [] (T.c (.pointer none)) := by
  refine fn_of Tryz.func12 rfl (by show 1 ≤ 45; decide) fun cx hcx => ?_
  refine tri_sub (sl 0 rfl sn) en ?_
  refine tri_seq ?_
  refine tri_reg mixed hcx ?_ _ _
  refine asg rfl ?_
  refine ⟨by kernel_rfl, ?_⟩
  refine nx (sl 0 rfl sn) en ?_
  refine tri_seq ?_
  refine tri_seq ?_
  refine tri_reg mixed hcx ?_ _ _
  refine mv rfl ?_
  refine ca rfl (h := wz_none_z) (hn := ?_)
  refine ⟨by kernel_rfl, ?_⟩
  refine nx (sl 0 rfl (sl 5 rfl sn)) en ?_
  refine tri_true rfl rfl ?_
  refine tri_seq ?_
  refine tri_reg mixed hcx ?_ _ _
  refine asg rfl ?_
  refine ⟨by kernel_rfl, ?_⟩
  refine nx (sl 2 rfl sn) en ?_
  refine tri_ret ?_
  repeat (first | refine pn_thenr ?_ | refine pn_blkr ?_)
  exact ret1 hcx rfl (rv_tmp rfl) (.refl _) en

theorem wz_Save_z  : Fn Tryz.prog 13 [T.fp (T.st [T.c (.slice none 0 0), T.c (.slice none 0 0), T.c (.slice none 0 0), T.c (.bool false), T.c (.slice none 0 0), T.c (.bool false), T.c (.slice none 0 0), T.c (.int .i64 0), T.c (.slice none 0 0), T.c (.bool false), T.c (.slice none 0 0), T.c (.bool false), T.c (.slice none 0 0), T.c (.int .i64 0), T.c (.slice none 0 0), T.c (.bool false), T.c (.slice none 0 0), T.c (.bool false), T.c (.slice none 0 0), T.c (.bool false), T.c (.slice none 0 0), T.c (.bool false), T.c (.slice none 0 0), T.c (.bool false), T.c (.slice none 0 0), T.c (.bool false), T.c (.slice none 0 0), T.c (.bool false), T.c (.slice none 0 0), T.c (.bool false), T.c (.slice none 0 0), T.c (.bool false), T.c (.slice none 0 0), T.c (.bool false), T.c (.slice none 0 0), T.c (.bool false), T.c (.slice none 0 0), T.c (.bool false), T.c (.slice none 0 0), T.c (.bool false), T.c (.slice none 0 0), T.c (.bool false), T.c (.slice none 0 0), T.c (.bool false), T.c (.slice none 0 0), T.c (.bool false), T.c (.slice none 0 0), T.c (.bool false), T.c (.slice none 0 0), T.c (.bool false), T.c (.slice none 0 0), T.c (.bool false), T.c (.slice none 0 0), T.c (.bool false), T.c (.slice none 0 0), T.c (.bool false), T.c (.slice none 0 0), T.c (.bool false), T.c (.slice none 0 0), T.c (.bool false), T.c (.slice none 0 0), T.c (.bool false), T.c (.slice none 0 0), T.c (.bool false), T.c (.slice none 0 0), T.c (.bool false), T.c (.slice none 0 0), T.c (.nilFunc), T.c (.string ⟨#[]⟩)])] [] [] [] (T.c (.string ⟨#[]⟩)) := by
  refine fn_of Tryz.func13 rfl (by show 1 ≤ 78; decide) fun cx hcx => ?_
  refine tri_sub (sl 0 rfl sn) en ?_
  refine tri_seq ?_
  refine tri_reg mixed hcx ?_ _ _
  refine asg rfl ?_
  refine ⟨by kernel_rfl, ?_⟩
  refine nx (sl 0 rfl sn) en ?_
  refine tri_seq ?_
  refine tri_seq ?_
  refine tri_reg mixed hcx ?_ _ _
  refine mv rfl ?_
  refine ca rfl (h := wz_none_z) (hn := ?_)
  refine ⟨by kernel_rfl, ?_⟩
  refine nx (sl 0 rfl (sl 11 rfl sn)) en ?_
  refine tri_true rfl rfl ?_
  refine tri_seq ?_
  refine tri_reg mixed hcx ?_ _ _
  refine asg rfl ?_
  refine ⟨by kernel_rfl, ?_⟩
  refine nx (sl 2 rfl sn) en ?_
  refine tri_ret ?_
  repeat (first | refine pn_thenr ?_ | refine pn_blkr ?_)
  exact ret1 hcx rfl (rv_tmp rfl) (.refl _) en

theorem l12_eqx {xs : List Int} (hx : xs.length = 0)  : Fn Tryz.prog 22 [T.st [T.c (.bool false), T.l cU xs], T.st [T.c (.bool false), T.l cU xs]] [] [] [] (T.c (.bool true)) := by
  refine fn_of Tryz.func22 rfl (by show 2 ≤ 38; decide) fun cx hcx => ?_
  refine tri_sub (sl 0 rfl (sl 1 rfl sn)) en ?_
  refine tri_seq ?_
  refine tri_reg mixed hcx ?_ _ _
  refine bxs 10 rfl ?_
  refine bxs 11 rfl ?_
  refine asg rfl ?_
  refine ⟨by kernel_rfl, ?_⟩
  refine nx (sl 2 rfl (sl 3 rfl sn)) (el 10 rfl (el 11 rfl en)) ?_
  refine tri_seq ?_
  refine tri_seq ?_
  refine tri_reg mixed hcx ?_ _ _
  refine fa rfl fNeg 0 ?_
  refine ld rfl rfl tyB rfl ?_
  refine fa rfl fNeg 0 ?_
  refine ld rfl rfl tyB rfl ?_
  refine neb rfl rfl rfl ?_
  refine mv rfl ?_
  refine fa rfl fMag 1 ?_ (hg := gd1)
  refine ld rfl rfl tyLs rfl ?_ (hg := gd1)
  refine ln slLs rfl ?_ (hg := gd1)
  refine fa rfl fMag 1 ?_ (hg := gd1)
  refine ld rfl rfl tyLs rfl ?_ (hg := gd1)
  refine ln slLs rfl ?_ (hg := gd1)
  refine cne rfl rfl (decide_eq_false (by omega)) ?_ (hg := gd1)
  refine pk rfl rfl ?_
  refine ⟨by kernel_rfl, ?_⟩
  refine nx (sl 2 rfl (sl 3 rfl (sl 19 rfl sn))) (el 10 rfl (el 11 rfl en)) ?_
  refine tri_false rfl rfl ?_
  refine tri_skip ?_
  refine nx (sl 2 rfl (sl 3 rfl sn)) (el 10 rfl (el 11 rfl en)) ?_
  refine tri_seq ?_
  refine tri_seq ?_
  refine tri_reg mixed hcx ?_ _ _
  refine asg rfl ?_
  refine ⟨by kernel_rfl, ?_⟩
  refine nx (sl 2 rfl (sl 3 rfl (sl 5 rfl sn))) (el 10 rfl (el 11 rfl en)) ?_
  refine tri_block ?_
  refine tri_loop (ι := Nat) (fun i => [(2, T.p 10 0), (3, T.p 11 0), (5, T.c (.int .i64 (i : Int)))]) (fun i => [(10, some (Ent.box 24 [T.c (.bool false), T.l cU xs])), (11, some (Ent.box 24 [T.c (.bool false), T.l cU xs]))]) (fun i => 0) (fun i => (i = 0)) 0 rfl (sl 2 rfl (sl 3 rfl (sl 5 rfl sn))) (el 10 rfl (el 11 rfl en)) ?_
  rintro i hi
  refine tri_sub (sl 2 rfl (sl 3 rfl (sl 5 rfl sn))) (el 10 rfl (el 11 rfl en)) ?_
  refine tri_seq ?_
  refine tri_seq ?_
  refine tri_reg mixed hcx ?_ _ _
  refine mv rfl ?_
  refine fa rfl fMag 1 ?_
  refine ld rfl rfl tyLs rfl ?_
  refine ln slLs rfl ?_
  refine clt rfl rfl (decide_eq_false (by omega)) ?_
  refine ⟨by kernel_rfl, ?_⟩
  refine nx (sl 2 rfl (sl 3 rfl (sl 5 rfl (sl 24 rfl sn)))) (el 10 rfl (el 11 rfl en)) ?_
  refine tri_false rfl rfl ?_
  refine tri_exit ?_
  repeat (first | refine pn_then ?_ | refine pn_oth (by decide) ?_)
  refine pn_ex ?_
  refine nx sn (el 10 rfl (el 11 rfl en)) ?_
  refine tri_seq ?_
  refine tri_reg mixed hcx ?_ _ _
  refine asg rfl ?_
  refine ⟨by kernel_rfl, ?_⟩
  refine nx (sl 4 rfl sn) (el 10 rfl (el 11 rfl en)) ?_
  refine tri_ret ?_
  repeat (first | refine pn_thenr ?_ | refine pn_blkr ?_)
  exact ret1 hcx rfl (rv_tmp rfl) (.refl _) en

theorem l12_eq0 : Fn Tryz.prog 22 [T.st [T.c (.bool false), T.c (.slice none 0 0)], T.st [T.c (.bool false), T.c (.slice none 0 0)]] [] [] [] (T.c (.bool true)) := fn_le (l12_eqx (xs := []) rfl) ⟨st_le (l := [T.c (.bool false), T.c (.slice none 0 0)]) (l' := [T.c (.bool false), T.l cU []]) ⟨.refl _, nil_l _, trivial⟩, st_le (l := [T.c (.bool false), T.c (.slice none 0 0)]) (l' := [T.c (.bool false), T.l cU []]) ⟨.refl _, nil_l _, trivial⟩, trivial⟩

theorem l12_eqr0  : Fn Tryz.prog 7 [T.st [T.c (.bool false), T.c (.slice none 0 0), T.c (.bool false), T.c (.slice none 0 0)], T.st [T.c (.bool false), T.c (.slice none 0 0), T.c (.bool false), T.c (.slice none 0 0)]] [] [] [] (T.c (.bool true)) := by
  refine fn_of Tryz.func7 rfl (by show 2 ≤ 17; decide) fun cx hcx => ?_
  refine tri_sub (sl 0 rfl (sl 1 rfl sn)) en ?_
  refine tri_seq ?_
  refine tri_reg mixed hcx ?_ _ _
  refine bxs 10 rfl ?_
  refine bxs 11 rfl ?_
  refine asg rfl ?_
  refine ⟨by kernel_rfl, ?_⟩
  refine nx (sl 2 rfl (sl 3 rfl sn)) (el 10 rfl (el 11 rfl en)) ?_
  refine tri_seq ?_
  refine tri_reg mixed hcx ?_ _ _
  refine fa rfl fNum 0 ?_
  refine ld rfl rfl tyZ rfl ?_
  refine fa rfl fNum 0 ?_
  refine ld rfl rfl tyZ rfl ?_
  refine ca rfl (h := l12_eq0) (hn := ?_)
  refine mv rfl ?_
  refine fa rfl fDen 2 ?_ (hg := gd1)
  refine ld rfl rfl tyZ rfl ?_ (hg := gd1)
  refine fa rfl fDen 2 ?_ (hg := gd1)
  refine ld rfl rfl tyZ rfl ?_ (hg := gd1)
  refine ca rfl (h := l12_eq0) (hn := ?_) (hg := gd1)
  refine pk rfl rfl ?_
  refine asg rfl ?_
  refine ⟨by kernel_rfl, ?_⟩
  refine nx (sl 4 rfl sn) (el 10 rfl (el 11 rfl en)) ?_
  refine tri_ret ?_
  repeat (first | refine pn_thenr ?_ | refine pn_blkr ?_)
  exact ret1 hcx rfl (rv_tmp rfl) (.refl _) en

theorem wzero_all {a b : Int} {k : Nat}  : Fn Tryz.prog 3 [T.Qi a b k] [] [] [] (T.c (.bool true)) := by
  refine fn_of Tryz.func3 rfl (by show 1 ≤ 121; decide) fun cx hcx => ?_
  refine tri_sub (sl 0 rfl sn) en ?_
  refine tri_seq ?_
  refine tri_reg mixed hcx ?_ _ _
  refine bxs 10 rfl ?_
  refine asg rfl ?_
  refine ⟨by kernel_rfl, ?_⟩
  refine nx (sl 1 rfl sn) (el 10 rfl en) ?_
  refine tri_seq ?_
  refine tri_seq ?_
  refine tri_reg mixed hcx ?_ _ _
  refine ca rfl (h := l12_alive) (hn := ?_)
  refine nt rfl _ rfl ?_
  refine ⟨by kernel_rfl, ?_⟩
  refine nx (sl 1 rfl (sl 14 rfl sn)) (el 10 rfl en) ?_
  refine tri_false rfl rfl ?_
  refine tri_skip ?_
  refine nx (sl 1 rfl sn) (el 10 rfl en) ?_
  refine tri_seq ?_
  refine tri_reg mixed hcx ?_ _ _
  refine asg rfl ?_
  refine ⟨by kernel_rfl, ?_⟩
  refine nx (sl 1 rfl (sl 3 rfl sn)) (el 10 rfl en) ?_
  refine tri_seq ?_
  refine tri_reg mixed hcx ?_ _ _
  refine nw 410 zeWk ?_
  refine ⟨by kernel_rfl, ?_⟩
  refine nx (sl 1 rfl (sl 3 rfl (sl 4 rfl sn))) (el 10 rfl (el 410 rfl en)) ?_
  refine tri_seq ?_
  refine tri_fzb 4 410 rfl rfl (by show (69 : Nat) ≠ 0; decide) ?_
  refine tri_reg mixed hcx ?_ _ _
  refine mv rfl ?_
  refine ca rfl (h := wz_Next_n) (hn := ?_)
  refine mv rfl ?_
  refine ex rfl rfl ?_
  refine ex rfl rfl ?_
  refine asg rfl ?_
  refine asg rfl ?_
  refine ⟨by kernel_rfl, ?_⟩
  refine nx (sl 1 rfl (sl 3 rfl (sl 4 rfl (sl 5 rfl (sl 6 rfl sn))))) (el 10 rfl en) ?_
  refine tri_seq ?_
  refine tri_reg mixed hcx ?_ _ _
  refine ca rfl (h := wz_Next_z) (hn := ?_)
  refine mv rfl ?_
  refine ex rfl rfl ?_
  refine ex rfl rfl ?_
  refine asg rfl ?_
  refine asg rfl ?_
  refine ⟨by kernel_rfl, ?_⟩
  refine nx (sl 1 rfl (sl 3 rfl (sl 4 rfl (sl 5 rfl (sl 6 rfl (sl 7 rfl (sl 8 rfl sn))))))) (el 10 rfl en) ?_
  refine tri_seq ?_
  refine tri_reg mixed hcx ?_ _ _
  refine mv rfl ?_
  refine ca rfl (h := wz_Part_n) (hn := ?_)
  refine mv rfl ?_
  refine ex rfl rfl ?_
  refine ex rfl rfl ?_
  refine nw 715 zeQ ?_
  refine sts rfl rfl rfl tyQ rfl ?_
  refine asg rfl ?_
  refine ⟨by kernel_rfl, ?_⟩
  refine nx (sl 1 rfl (sl 3 rfl (sl 4 rfl (sl 5 rfl (sl 6 rfl (sl 7 rfl (sl 8 rfl (sl 9 rfl (sl 10 rfl sn))))))))) (el 10 rfl (el 715 rfl en)) ?_
  refine tri_seq ?_
  refine tri_reg mixed hcx ?_ _ _
  refine ca rfl (h := wz_Part_z) (hn := ?_)
  refine mv rfl ?_
  refine ex rfl rfl ?_
  refine ex rfl rfl ?_
  refine nw 814 zeQ ?_
  refine sts rfl rfl rfl tyQ rfl ?_
  refine asg rfl ?_
  refine ⟨by kernel_rfl, ?_⟩
  refine nx (sl 1 rfl (sl 3 rfl (sl 4 rfl (sl 5 rfl (sl 6 rfl (sl 7 rfl (sl 8 rfl (sl 9 rfl (sl 10 rfl (sl 11 rfl (sl 12 rfl sn))))))))))) (el 10 rfl (el 715 rfl (el 814 rfl en))) ?_
  refine tri_seq ?_
  refine tri_seq ?_
  refine tri_reg mixed hcx ?_ _ _
  refine mv rfl ?_
  refine ln slZs rfl ?_
  refine cne rfl rfl (decide_eq_false (by omega)) ?_
  refine mv rfl ?_
  refine mv rfl ?_ (hg := gd1)
  refine ln slZs rfl ?_ (hg := gd1)
  refine cne rfl rfl (decide_eq_false (by omega)) ?_ (hg := gd1)
  refine pk rfl rfl ?_
  refine mv rfl ?_
  refine mv rfl ?_ (hg := gd1)
  refine pk rfl rfl ?_
  refine mv rfl ?_
  refine mv rfl ?_ (hg := gd1)
  refine pk rfl rfl ?_
  refine mv rfl ?_
  refine mv rfl ?_ (hg := gd1)
  refine pk rfl rfl ?_
  refine mv rfl ?_
  refine mv rfl ?_ (hg := gd1)
  refine pk rfl rfl ?_
  refine mv rfl ?_
  refine ld rfl rfl tyQ rfl ?_ (hg := gd1)
  refine bu stQ rfl ?_ (hg := gd1)
  refine ca rfl (h := l12_eqr0) (hn := ?_) (hg := gd1)
  refine nt rfl _ rfl ?_ (hg := gd1)
  refine pk rfl rfl ?_
  refine mv rfl ?_
  refine ld rfl rfl tyQ rfl ?_ (hg := gd1)
  refine bu stQ rfl ?_ (hg := gd1)
  refine ca rfl (h := l12_eqr0) (hn := ?_) (hg := gd1)
  refine nt rfl _ rfl ?_ (hg := gd1)
  refine pk rfl rfl ?_
  refine ⟨by kernel_rfl, ?_⟩
  refine nx (sl 1 rfl (sl 3 rfl (sl 4 rfl (sl 64 rfl sn)))) (el 10 rfl (el 715 rfl (el 814 rfl en))) ?_
  refine tri_false rfl rfl ?_
  refine tri_skip ?_
  refine nx (sl 1 rfl (sl 3 rfl (sl 4 rfl sn))) (el 10 rfl (el 715 rfl (el 814 rfl en))) ?_
  refine tri_seq ?_
  refine tri_reg mixed hcx ?_ _ _
  refine mv rfl ?_
  refine ld rfl rfl tyQ rfl ?_
  refine ca rfl (h := wz_Shrink_n) (hn := ?_)
  refine ceq rfl rfl (decide_eq_true (by omega)) ?_
  refine mv rfl ?_
  refine ld rfl rfl tyQ rfl ?_ (hg := gd1)
  refine ca rfl (h := wz_Shrink_z) (hn := ?_) (hg := gd1)
  refine ceq rfl rfl (decide_eq_true (by omega)) ?_ (hg := gd1)
  refine pk rfl rfl ?_
  refine mv rfl ?_
  refine mv rfl ?_ (hg := gd1)
  refine ca rfl (h := wz_Skip_n) (hn := ?_) (hg := gd1)
  refine ceq rfl rfl (decide_eq_true (by omega)) ?_ (hg := gd1)
  refine pk rfl rfl ?_
  refine mv rfl ?_
  refine ca rfl (h := wz_Skip_z) (hn := ?_) (hg := gd1)
  refine ceq rfl rfl (decide_eq_true (by omega)) ?_ (hg := gd1)
  refine pk rfl rfl ?_
  refine mv rfl ?_
  refine mv rfl ?_ (hg := gd1)
  refine ca rfl (h := wz_Bound_n) (hn := ?_) (hg := gd1)
  refine bu stQ rfl ?_ (hg := gd1)
  refine ca rfl (h := l12_eqr0) (hn := ?_) (hg := gd1)
  refine pk rfl rfl ?_
  refine mv rfl ?_
  refine ca rfl (h := wz_Bound_z) (hn := ?_) (hg := gd1)
  refine bu stQ rfl ?_ (hg := gd1)
  refine ca rfl (h := l12_eqr0) (hn := ?_) (hg := gd1)
  refine pk rfl rfl ?_
  refine mv rfl ?_
  refine mv rfl ?_ (hg := gd1)
  refine ca rfl (h := wz_Told_n) (hn := ?_) (hg := gd1)
  refine ceq rfl rfl (decide_eq_true (by omega)) ?_ (hg := gd1)
  refine pk rfl rfl ?_
  refine mv rfl ?_
  refine ca rfl (h := wz_Told_z) (hn := ?_) (hg := gd1)
  refine ceq rfl rfl (decide_eq_true (by omega)) ?_ (hg := gd1)
  refine pk rfl rfl ?_
  refine mv rfl ?_
  refine mv rfl ?_ (hg := gd1)
  refine ca rfl (h := wz_Fork_n) (hn := ?_) (hg := gd1)
  refine pqn rfl rfl uPW ?_ (hg := gd1)
  refine pk rfl rfl ?_
  refine mv rfl ?_
  refine ca rfl (h := wz_Fork_z) (hn := ?_) (hg := gd1)
  refine pqn rfl rfl uPW ?_ (hg := gd1)
  refine pk rfl rfl ?_
  refine mv rfl ?_
  refine mv rfl ?_ (hg := gd1)
  refine ca rfl (h := wz_Save_n) (hn := ?_) (hg := gd1)
  refine seq rfl rfl (q := true) (by decide +kernel) ?_ (hg := gd1)
  refine pk rfl rfl ?_
  refine mv rfl ?_
  refine ca rfl (h := wz_Save_z) (hn := ?_) (hg := gd1)
  refine seq rfl rfl (q := true) (by decide +kernel) ?_ (hg := gd1)
  refine pk rfl rfl ?_
  refine asg rfl ?_
  refine ⟨by kernel_rfl, ?_⟩
  refine nx (sl 2 rfl sn) (el 10 rfl (el 715 rfl (el 814 rfl en))) ?_
  refine tri_ret ?_
  repeat (first | refine pn_thenr ?_ | refine pn_blkr ?_)
  exact ret1 hcx rfl (rv_tmp rfl) (.refl _) en
end Go.Proofs.YtekghdfbhbhigaaGreatDoor.V
