/- A tree cut into jobs: the queue. -/
import Derived.Test.YtekghdfbhbhigaaM05
set_option linter.unusedVariables false
set_option linter.unusedSimpArgs false
set_option maxRecDepth 100000
namespace Go.Proofs.Ytekghdfbhbhigaa.V
open Go.RowKit Mt Nml
theorem tyJb : Ty Try.prog 49 true 1 := ⟨by kernel_rfl, by kernel_rfl⟩
theorem tyJbs : Ty Try.prog 44 false 1 := ⟨by kernel_rfl, by kernel_rfl⟩
theorem fJbR : FieldT Try.prog 49 0 0 false 1 := FieldT.mk' tyZs
theorem fQjL : FieldT Try.prog 68 0 0 false 1 := FieldT.mk' tyJbs
theorem slJbs : SlT Try.prog 44 49 1 24 := SlT.mk (.agg #[.slice none 0 0])
theorem stJb : StructT Try.prog 49 [T.c (.slice none 0 0)] [(0, 1)] := StructT.mk' (zs := [.slice none 0 0])
theorem stQj : StructT Try.prog 68 [T.c (.slice none 0 0)] [(0, 1)] := StructT.mk' (zs := [.slice none 0 0])
theorem zeJb : Zero Try.prog 49 [T.c (.slice none 0 0)] := zero_of (zs := [.slice none 0 0]) (z := .agg #[.slice none 0 0]) (by kernel_rfl)
theorem ci_b {a b : Bool} (h : a = b) : (T.c (.bool a)).le (T.c (.bool b)) := .of (by rw [h])
/-- Jobs, told by their roots. -/
def cJ (k : Nat) : Cod (List Int) := ⟨fun q => T.st [T.l (cZ k) q], 1, [], fun _ => rfl, fun _ => rfl, by decide⟩
instance (k : Nat) (q : List Int) : Sp ((cJ k).X q) [T.l (cZ k) q] := ⟨.refl _⟩

theorem sp_put2 {l : List (List Int)} {q : List Int} {k : Nat} (hl : l.length ≤ 1048576) : Fn Try.prog 25 [T.p 600 0, T.st [T.l (cZ k) q]] [(600, Ent.box 68 [T.o 602]), (602, Ent.ap (cJ k) 49 (l))] [(600, Ent.box 68 [T.o 603]), (603, Ent.row (cJ k) 49 (l ++ [q]))] [603] (T.tup []) := by
  refine fn_of Try.func25 rfl (by show 2 ≤ 14; decide) fun cx hcx => ?_
  refine tri_sub (sl 0 rfl (sl 1 rfl sn)) (el 600 rfl (el 602 rfl en)) ?_
  refine tri_seq ?_
  refine tri_reg mixed hcx ?_ _ _
  refine bxs 10 rfl ?_
  refine ⟨by kernel_rfl, ?_⟩
  refine nx (sl 0 rfl (sl 3 rfl sn)) (el 600 rfl (el 602 rfl (el 10 rfl en))) ?_
  refine tri_reg mixed hcx ?_ _ _
  refine mv rfl ?_
  refine mv rfl ?_
  refine nk rfl ?_
  refine fa rfl fQjL 0 ?_
  refine ld rfl rfl tyJbs rfl ?_
  refine ld rfl rfl tyJb rfl ?_
  refine bs (c := cJ k) (xs := [q]) slJbs rfl ⟨.refl _, trivial⟩ ?_
  refine apa (c := cJ k) 603 rfl rfl rfl slJbs (by omega) (by decide) ?_
  refine nk rfl ?_
  refine fa rfl fQjL 0 ?_
  refine st rfl rfl rfl tyJbs rfl ?_
  refine ⟨by kernel_rfl, ?_⟩
  refine pn_off ?_
  exact ret0 hcx rfl  (.refl _) (el 600 rfl (el 603 rfl en))

theorem sp_put0 {l : List (List Int)} {q : List Int} {k : Nat}  : Fn Try.prog 25 [T.p 600 0, T.st [T.l (cZ k) q]] [(600, Ent.box 68 [T.c (.slice none 0 0)])] [(600, Ent.box 68 [T.o 601]), (601, Ent.row (cJ k) 49 ([q]))] [601] (T.tup []) := by
  refine fn_of Try.func25 rfl (by show 2 ≤ 14; decide) fun cx hcx => ?_
  refine tri_sub (sl 0 rfl (sl 1 rfl sn)) (el 600 rfl en) ?_
  refine tri_seq ?_
  refine tri_reg mixed hcx ?_ _ _
  refine bxs 10 rfl ?_
  refine ⟨by kernel_rfl, ?_⟩
  refine nx (sl 0 rfl (sl 3 rfl sn)) (el 600 rfl (el 10 rfl en)) ?_
  refine tri_reg mixed hcx ?_ _ _
  refine mv rfl ?_
  refine mv rfl ?_
  refine nk rfl ?_
  refine fa rfl fQjL 0 ?_
  refine ld rfl rfl tyJbs rfl ?_
  refine ld rfl rfl tyJb rfl ?_
  refine bs (c := cJ k) (xs := [q]) slJbs rfl ⟨.refl _, trivial⟩ ?_
  refine apn (c := cJ k) 601 rfl rfl slJbs (by show 1 * 24 ≤ _; decide) (by decide) ?_
  refine nk rfl ?_
  refine fa rfl fQjL 0 ?_
  refine st rfl rfl rfl tyJbs rfl ?_
  refine ⟨by kernel_rfl, ?_⟩
  refine pn_off ?_
  exact ret0 hcx rfl  (.refl _) (el 600 rfl (el 601 rfl en))

theorem sp_goes {D : List Int} {L : List (List Int)} {ts : List (Int × Int)} {a b : Int} {k k2 : Nat} {q : List Int} : Fn Try.prog 27 [T.st [T.l (cZ k) q], T.fp (T.Tr D L ts a b k2)] [] [] [] (T.c (.bool (decide (q.length < L.length)))) := by
  refine fn_of Try.func27 rfl (by show 2 ≤ 12; decide) fun cx hcx => ?_
  refine tri_sub (sl 0 rfl (sl 1 rfl sn)) en ?_
  refine tri_seq ?_
  refine tri_reg mixed hcx ?_ _ _
  refine bxs 10 rfl ?_
  refine asg rfl ?_
  refine ⟨by kernel_rfl, ?_⟩
  refine nx (sl 1 rfl (sl 2 rfl sn)) (el 10 rfl en) ?_
  refine tri_seq ?_
  refine tri_reg mixed hcx ?_ _ _
  refine fa rfl fJbR 0 ?_
  refine ld rfl rfl tyZs rfl ?_
  refine ln slZs rfl ?_
  refine ff rfl fTrG rfl ?_
  refine ff rfl fL rfl ?_
  refine lf rfl tyZss ?_
  refine ln slZss rfl ?_
  refine clt rfl rfl rfl ?_
  refine asg rfl ?_
  refine ⟨by kernel_rfl, ?_⟩
  refine nx (sl 3 rfl sn) (el 10 rfl en) ?_
  refine tri_ret ?_
  repeat (first | refine pn_thenr ?_ | refine pn_blkr ?_)
  exact ret1 hcx rfl (rv_tmp rfl) (.of (by rw [decide_eq_decide.2 Int.ofNat_lt])) en

theorem sp_longer {q : List Int} {x : Int} {k : Nat} (hq : q.length ≤ 1048576) (hk : k ≤ 1099511627776) : Fn Try.prog 29 [T.l (cZi k) q, T.Z x k] [] [] [] (T.l (cZ k) (q ++ [x])) := by
  refine fn_of Try.func29 rfl (by show 2 ≤ 28; decide) fun cx hcx => ?_
  refine tri_sub (sl 0 rfl (sl 1 rfl sn)) en ?_
  refine tri_z 1 rfl fun hxz => ?_
  refine tri_seq ?_
  refine tri_reg mixed hcx ?_ _ _
  refine bxs 10 rfl ?_
  refine asg rfl ?_
  refine ⟨by kernel_rfl, ?_⟩
  refine nx (sl 0 rfl (sl 3 rfl sn)) (el 10 rfl en) ?_
  refine tri_seq ?_
  refine tri_reg mixed hcx ?_ _ _
  refine mv rfl ?_
  refine ln slZs rfl ?_
  refine ad (((q.length + 1 : Nat) : Int)) rfl rfl rfl (by omega) ?_
  refine mk0 (c := (cZ k)) (n := (q.length + 1)) 113 slZs rfl rfl (by omega) (by decide) ?_
  refine asg rfl ?_
  refine ⟨by kernel_rfl, ?_⟩
  refine nx (sl 0 rfl (sl 3 rfl (sl 5 rfl sn))) (el 10 rfl (el 113 rfl en)) ?_
  refine tri_seq ?_
  refine tri_seq ?_
  refine tri_reg mixed hcx ?_ _ _
  refine mv rfl ?_
  refine ln slZs rfl ?_
  refine mv rfl ?_
  refine ⟨by kernel_rfl, ?_⟩
  refine nx (sl 3 rfl (sl 5 rfl (sl 12 rfl (sl 13 rfl (sl 14 rfl sn))))) (el 10 rfl (el 113 rfl en)) ?_
  refine tri_block ?_
  refine tri_loop (ι := Nat) (fun i => [(3, T.p 10 0), (5, T.o 113), (12, T.l (cZi k) q), (13, T.c (.int .i64 (q.length : Int))), (14, T.c (.int .i64 (i : Int)))]) (fun i => [(10, some (Ent.box 38 [T.c (.bool (decide (x < 0))), T.l cU (dig x.natAbs)])), (113, some (Ent.row (cZ k) 38 (q.take i)))]) (fun i => q.length - i) (fun i => (i ≤ q.length)) 0 (Nat.zero_le _) (sl 3 rfl (sl 5 rfl (sl 12 rfl (sl 13 rfl (sl 14 rfl sn))))) (el 10 rfl (el 113 rfl en)) ?_
  rintro i hi
  refine tri_sub (sl 3 rfl (sl 5 rfl (sl 12 rfl (sl 13 rfl (sl 14 rfl sn))))) (el 10 rfl (el 113 rfl en)) ?_
  have htk : (q.take i).length = i := by rw [List.length_take]; omega
  refine tri_seq ?_
  refine tri_reg mixed hcx ?_ _ _
  refine clt rfl rfl rfl ?_
  refine ⟨by kernel_rfl, ?_⟩
  refine nx (sl 3 rfl (sl 5 rfl (sl 12 rfl (sl 13 rfl (sl 14 rfl (sl 15 rfl sn)))))) (el 10 rfl (el 113 rfl en)) ?_
  refine tri_seq ?_
  refine tri_if rfl (fun hc => ?_) (fun hc => ?_)
  · have hc2 : i < q.length := by omega
    refine tri_skip ?_
    refine nx (sl 3 rfl (sl 5 rfl (sl 12 rfl (sl 13 rfl (sl 14 rfl sn))))) (el 10 rfl (el 113 rfl en)) ?_
    refine tri_seq ?_
    refine tri_block ?_
    refine tri_seq ?_
    refine tri_reg mixed hcx ?_ _ _
    refine ix rfl rfl slZs ⟨rfl, by omega⟩ ?_
    refine lf rfl tyZ ?_
    refine nw 412 zeZ ?_
    refine st rfl rfl rfl tyZ rfl ?_
    refine ⟨by kernel_rfl, ?_⟩
    refine nx (sl 3 rfl (sl 5 rfl (sl 7 rfl (sl 12 rfl (sl 13 rfl (sl 14 rfl sn)))))) (el 10 rfl (el 113 rfl (el 412 rfl en))) ?_
    refine tri_reg mixed hcx ?_ _ _
    refine mv rfl ?_
    refine ld rfl rfl tyZ rfl ?_
    refine ca rfl (h := zi_Form (by omega)) (hn := ?_)
    refine bs (c := cZ k) (xs := [q.getD i (cZi k).dflt]) slZs rfl ⟨.refl _, trivial⟩ ?_
    refine ap 514 rfl rfl rfl slZs (by simp only [List.length_cons, List.length_nil]; omega) (by decide) ?_
    refine asg rfl ?_
    refine ⟨by kernel_rfl, ?_⟩
    refine pn_blk ?_
    refine nx (sl 3 rfl (sl 5 rfl (sl 12 rfl (sl 13 rfl (sl 14 rfl sn))))) (el 10 rfl (el 412 rfl (el 514 rfl en))) ?_
    refine tri_reg mixed hcx ?_ _ _
    refine ad (((i + 1 : Nat) : Int)) rfl rfl rfl (by omega) ?_
    refine mv rfl ?_
    refine ⟨by kernel_rfl, ?_⟩
    refine pn_sub (sl 3 rfl (sl 5 rfl (sl 12 rfl (sl 13 rfl (sl 14 rfl sn))))) (el 10 rfl (el 412 rfl (el 514 rfl en))) ?_
    refine pn_ren 5 113 514 rfl rfl (by rw [hcx]; kernel_rfl) ?_
    exact pn_back (i + 1) (by first | omega | (dsimp only; omega)) (by omega) (sl 3 rfl (sl 5 rfl (sl 12 rfl (sl 13 rfl (sl 14 rfl sn))))) (el 10 rfl (ew 113 rfl (.of (by rw [show (cZi k).dflt = 0 from rfl, take_snoc hc2])) en))
  · refine tri_exit ?_
    repeat (first | refine pn_then ?_ | refine pn_oth (by decide) ?_)
    refine pn_ex ?_
    have hin : i = q.length := by omega
    refine nx (sl 3 rfl (sl 5 rfl sn)) (el 10 rfl (el 113 rfl en)) ?_
    refine tri_seq ?_
    refine tri_reg mixed hcx ?_ _ _
    refine mv rfl ?_
    refine ld rfl rfl tyZ rfl ?_
    refine bs (c := cZ k) (xs := [x]) slZs rfl ⟨z_st hxz, trivial⟩ ?_
    refine ap 713 rfl rfl rfl slZs (by simp only [List.length_cons, List.length_nil]; omega) (by decide) ?_
    refine asg rfl ?_
    refine ⟨by kernel_rfl, ?_⟩
    refine nx (sl 4 rfl sn) (el 10 rfl (el 713 rfl en)) ?_
    refine tri_fz 713 rfl ?_
    refine tri_rd 4 713 rfl rfl ?_
    refine tri_ret ?_
    repeat (first | refine pn_thenr ?_ | refine pn_blkr ?_)
    exact ret1 hcx rfl (rv_tmp rfl) (.of (by rw [hin, List.take_length])) en

theorem sp_take {D : List Int} {L : List (List Int)} {ts : List (Int × Int)} {a b : Int} {k k2 : Nat} {l : List (List Int)} {i : Nat} (hl : l.length ≤ 1048576) (hi : i < l.length) (ho : (l.getD i []).length < L.length) (hc : ∀ j, j < i → ¬ (l.getD j []).length < L.length) : Fn Try.prog 26 [T.p 600 0, T.fn 27 [T.fp (T.Tr D L ts a b k2)]] [(600, Ent.box 68 [T.o 601]), (601, Ent.ap (cJ k) 49 (l))] [(600, Ent.box 68 [T.o 602]), (602, Ent.ap (cJ k) 49 (l.take i ++ l.drop (i + 1)))] [602] (T.tup [T.st [T.l (cZ k) (l.getD i [])], T.c (.bool true)]) := by
  refine fn_of Try.func26 rfl (by show 2 ≤ 43; decide) fun cx hcx => ?_
  refine tri_sub (sl 0 rfl (sl 1 rfl sn)) (el 600 rfl (el 601 rfl en)) ?_
  refine tri_seq ?_
  refine tri_reg mixed hcx ?_ _ _
  refine nw 10 zeJb ?_
  refine asg rfl ?_
  refine ⟨by kernel_rfl, ?_⟩
  refine nx (sl 0 rfl (sl 1 rfl (sl 4 rfl sn))) (el 600 rfl (el 601 rfl (el 10 rfl en))) ?_
  refine tri_seq ?_
  refine tri_seq ?_
  refine tri_fza 601 rfl ?_
  refine tri_rdb (bl := [T.o 601]) (bl' := [T.l (cJ k) l]) 600 601 rfl rfl ⟨.inr ⟨rfl, rfl⟩, trivial⟩ ?_
  refine tri_reg mixed hcx ?_ _ _
  refine mv rfl ?_
  refine nk rfl ?_
  refine fa rfl fQjL 0 ?_
  refine ld rfl rfl tyJbs rfl ?_
  refine ln slJbs rfl ?_
  refine mv rfl ?_
  refine ⟨by kernel_rfl, ?_⟩
  refine nx (sl 0 rfl (sl 1 rfl (sl 4 rfl (sl 12 rfl (sl 13 rfl (sl 14 rfl sn)))))) (el 600 rfl (el 10 rfl en)) ?_
  refine tri_block ?_
  refine tri_loop (ι := Nat) (fun e => [(0, T.p 600 0), (1, T.fn 27 [T.fp (T.Tr D L ts a b k2)]), (4, T.p 10 0), (12, T.l (cJ k) l), (13, T.c (.int .i64 (l.length : Int))), (14, T.c (.int .i64 (e : Int)))]) (fun e => [(600, some (Ent.box 68 [T.l (cJ k) l])), (10, some (Ent.box 49 [T.c (.slice none 0 0)]))]) (fun e => l.length - e) (fun e => (e ≤ i)) 0 (Nat.zero_le _) (sl 0 rfl (sl 1 rfl (sl 4 rfl (sl 12 rfl (sl 13 rfl (sl 14 rfl sn)))))) (el 600 rfl (el 10 rfl en)) ?_
  rintro e he
  refine tri_sub (sl 0 rfl (sl 1 rfl (sl 4 rfl (sl 12 rfl (sl 13 rfl (sl 14 rfl sn)))))) (el 600 rfl (el 10 rfl en)) ?_
  refine tri_seq ?_
  refine tri_reg mixed hcx ?_ _ _
  refine clt rfl rfl (decide_eq_true (by omega)) ?_
  refine ⟨by kernel_rfl, ?_⟩
  refine nx (sl 0 rfl (sl 1 rfl (sl 4 rfl (sl 12 rfl (sl 13 rfl (sl 14 rfl (sl 15 rfl sn))))))) (el 600 rfl (el 10 rfl en)) ?_
  refine tri_seq ?_
  refine tri_true rfl rfl ?_
  refine tri_skip ?_
  refine nx (sl 0 rfl (sl 1 rfl (sl 4 rfl (sl 12 rfl (sl 13 rfl (sl 14 rfl sn)))))) (el 600 rfl (el 10 rfl en)) ?_
  refine tri_seq ?_
  refine tri_block ?_
  refine tri_seq ?_
  refine tri_reg mixed hcx ?_ _ _
  refine mv rfl ?_
  refine ix rfl rfl slJbs ⟨rfl, by omega⟩ ?_
  refine lf rfl tyJb ?_
  refine nw 313 zeJb ?_
  refine asg rfl ?_
  refine st rfl rfl rfl tyJb rfl ?_
  refine ⟨by kernel_rfl, ?_⟩
  refine nx (sl 0 rfl (sl 1 rfl (sl 4 rfl (sl 6 rfl (sl 7 rfl (sl 12 rfl (sl 13 rfl (sl 14 rfl sn)))))))) (el 600 rfl (el 10 rfl (el 313 rfl en))) ?_
  refine tri_seq ?_
  rcases Nat.eq_or_lt_of_le he with heq | hlt
  · obtain rfl : e = i := heq
    refine tri_reg mixed hcx ?_ _ _
    refine mv rfl ?_
    refine ld rfl rfl tyJb rfl ?_
    refine cf rfl rfl (fn_out (sp_goes (q := l.getD e []) (k := k) (k2 := k2) (D := D) (L := L) (ts := ts) (a := a) (b := b)) (ci_b (decide_eq_true ho))) (by intro a w; kernel_rfl) ?_
    refine ⟨by kernel_rfl, ?_⟩
    refine nx (sl 0 rfl (sl 1 rfl (sl 4 rfl (sl 6 rfl (sl 7 rfl (sl 12 rfl (sl 13 rfl (sl 14 rfl (sl 21 rfl sn))))))))) (el 600 rfl (el 10 rfl (el 313 rfl en))) ?_
    refine tri_true rfl rfl ?_
    refine tri_seq ?_
    refine tri_reg mixed hcx ?_ _ _
    refine mv rfl ?_
    refine mv rfl ?_
    refine nk rfl ?_
    refine fa rfl fQjL 0 ?_
    refine ld rfl rfl tyJbs rfl ?_
    refine mv rfl ?_
    refine mv rfl ?_
    refine sh3x (hi := e) rfl slJbs rfl rfl ⟨rfl, rfl, by omega⟩ ?_
    refine mv rfl ?_
    refine nk rfl ?_
    refine fa rfl fQjL 0 ?_
    refine ld rfl rfl tyJbs rfl ?_
    refine mv rfl ?_
    refine ad (((e + 1 : Nat) : Int)) rfl rfl rfl (by omega) ?_
    refine sr rfl slJbs rfl ⟨rfl, by omega⟩ ?_
    refine apx (c := cJ k) 602 rfl rfl slJbs (by rw [List.length_take, List.length_drop]; omega) (by decide) ?_
    refine nk rfl ?_
    refine fa rfl fQjL 0 ?_
    refine st rfl rfl rfl tyJbs rfl ?_
    refine ⟨by kernel_rfl, ?_⟩
    refine nx (sl 4 rfl (sl 7 rfl sn)) (el 600 rfl (el 10 rfl (el 313 rfl (el 602 rfl en)))) ?_
    refine tri_seq ?_
    refine tri_reg mixed hcx ?_ _ _
    refine ld rfl rfl tyJb rfl ?_
    refine st rfl rfl rfl tyJb rfl ?_
    refine asg rfl ?_
    refine ⟨by kernel_rfl, ?_⟩
    refine nx (sl 4 rfl (sl 5 rfl sn)) (el 600 rfl (el 10 rfl (el 313 rfl (el 602 rfl en)))) ?_
    refine tri_ret ?_
    repeat (first | refine pn_thenr ?_ | refine pn_blkr ?_)
    exact ret2 hcx rfl (rv_cell (c' := cx) (n := 0) rfl rfl tyJb rfl) (rv_tmp rfl) (.refl _) (el 600 rfl (el 602 rfl en))
  · have hne := hc e hlt
    refine tri_reg mixed hcx ?_ _ _
    refine mv rfl ?_
    refine ld rfl rfl tyJb rfl ?_
    refine cf rfl rfl (fn_out (sp_goes (q := l.getD e []) (k := k) (k2 := k2) (D := D) (L := L) (ts := ts) (a := a) (b := b)) (ci_b (decide_eq_false hne))) (by intro a w; kernel_rfl) ?_
    refine ⟨by kernel_rfl, ?_⟩
    refine nx (sl 0 rfl (sl 1 rfl (sl 4 rfl (sl 6 rfl (sl 7 rfl (sl 12 rfl (sl 13 rfl (sl 14 rfl (sl 21 rfl sn))))))))) (el 600 rfl (el 10 rfl (el 313 rfl en))) ?_
    refine tri_false rfl rfl ?_
    refine tri_skip ?_
    refine pn_blk ?_
    refine nx (sl 0 rfl (sl 1 rfl (sl 4 rfl (sl 12 rfl (sl 13 rfl (sl 14 rfl sn)))))) (el 600 rfl (el 10 rfl (el 313 rfl en))) ?_
    refine tri_reg mixed hcx ?_ _ _
    refine ad (((e + 1 : Nat) : Int)) rfl rfl rfl (by omega) ?_
    refine mv rfl ?_
    refine ⟨by kernel_rfl, ?_⟩
    exact pn_back (e + 1) (by first | omega | (dsimp only; omega)) (by omega) (sl 0 rfl (sl 1 rfl (sl 4 rfl (sl 12 rfl (sl 13 rfl (sl 14 rfl sn)))))) (el 600 rfl (el 10 rfl en))

theorem sp_take_no {D : List Int} {L : List (List Int)} {ts : List (Int × Int)} {a b : Int} {k k2 : Nat} {l : List (List Int)} (hl : l.length ≤ 1048576) (hc : ∀ j, j < l.length → ¬ (l.getD j []).length < L.length) : Fn Try.prog 26 [T.p 600 0, T.fn 27 [T.fp (T.Tr D L ts a b k2)]] [(600, Ent.box 68 [T.o 601]), (601, Ent.ap (cJ k) 49 (l))] [(600, Ent.box 68 [T.l (cJ k) l])] [] (T.tup [T.st [T.c (.slice none 0 0)], T.c (.bool false)]) := by
  refine fn_of Try.func26 rfl (by show 2 ≤ 43; decide) fun cx hcx => ?_
  refine tri_sub (sl 0 rfl (sl 1 rfl sn)) (el 600 rfl (el 601 rfl en)) ?_
  refine tri_seq ?_
  refine tri_reg mixed hcx ?_ _ _
  refine nw 10 zeJb ?_
  refine asg rfl ?_
  refine ⟨by kernel_rfl, ?_⟩
  refine nx (sl 0 rfl (sl 1 rfl (sl 4 rfl sn))) (el 600 rfl (el 601 rfl (el 10 rfl en))) ?_
  refine tri_seq ?_
  refine tri_seq ?_
  refine tri_fza 601 rfl ?_
  refine tri_rdb (bl := [T.o 601]) (bl' := [T.l (cJ k) l]) 600 601 rfl rfl ⟨.inr ⟨rfl, rfl⟩, trivial⟩ ?_
  refine tri_reg mixed hcx ?_ _ _
  refine mv rfl ?_
  refine nk rfl ?_
  refine fa rfl fQjL 0 ?_
  refine ld rfl rfl tyJbs rfl ?_
  refine ln slJbs rfl ?_
  refine mv rfl ?_
  refine ⟨by kernel_rfl, ?_⟩
  refine nx (sl 0 rfl (sl 1 rfl (sl 4 rfl (sl 12 rfl (sl 13 rfl (sl 14 rfl sn)))))) (el 600 rfl (el 10 rfl en)) ?_
  refine tri_block ?_
  refine tri_loop (ι := Nat) (fun e => [(0, T.p 600 0), (1, T.fn 27 [T.fp (T.Tr D L ts a b k2)]), (4, T.p 10 0), (12, T.l (cJ k) l), (13, T.c (.int .i64 (l.length : Int))), (14, T.c (.int .i64 (e : Int)))]) (fun e => [(600, some (Ent.box 68 [T.l (cJ k) l])), (10, some (Ent.box 49 [T.c (.slice none 0 0)]))]) (fun e => l.length - e) (fun e => (e ≤ l.length)) 0 (Nat.zero_le _) (sl 0 rfl (sl 1 rfl (sl 4 rfl (sl 12 rfl (sl 13 rfl (sl 14 rfl sn)))))) (el 600 rfl (el 10 rfl en)) ?_
  rintro e he
  refine tri_sub (sl 0 rfl (sl 1 rfl (sl 4 rfl (sl 12 rfl (sl 13 rfl (sl 14 rfl sn)))))) (el 600 rfl (el 10 rfl en)) ?_
  refine tri_seq ?_
  refine tri_reg mixed hcx ?_ _ _
  refine clt rfl rfl rfl ?_
  refine ⟨by kernel_rfl, ?_⟩
  refine nx (sl 0 rfl (sl 1 rfl (sl 4 rfl (sl 12 rfl (sl 13 rfl (sl 14 rfl (sl 15 rfl sn))))))) (el 600 rfl (el 10 rfl en)) ?_
  refine tri_seq ?_
  refine tri_if rfl (fun hcc => ?_) (fun hcc => ?_)
  · have hlt : e < l.length := by omega
    have hne := hc e hlt
    refine tri_skip ?_
    refine nx (sl 0 rfl (sl 1 rfl (sl 4 rfl (sl 12 rfl (sl 13 rfl (sl 14 rfl sn)))))) (el 600 rfl (el 10 rfl en)) ?_
    refine tri_seq ?_
    refine tri_block ?_
    refine tri_seq ?_
    refine tri_reg mixed hcx ?_ _ _
    refine mv rfl ?_
    refine ix rfl rfl slJbs ⟨rfl, by omega⟩ ?_
    refine lf rfl tyJb ?_
    refine nw 313 zeJb ?_
    refine asg rfl ?_
    refine st rfl rfl rfl tyJb rfl ?_
    refine ⟨by kernel_rfl, ?_⟩
    refine nx (sl 0 rfl (sl 1 rfl (sl 4 rfl (sl 6 rfl (sl 7 rfl (sl 12 rfl (sl 13 rfl (sl 14 rfl sn)))))))) (el 600 rfl (el 10 rfl (el 313 rfl en))) ?_
    refine tri_seq ?_
    refine tri_reg mixed hcx ?_ _ _
    refine mv rfl ?_
    refine ld rfl rfl tyJb rfl ?_
    refine cf rfl rfl (fn_out (sp_goes (q := l.getD e []) (k := k) (k2 := k2) (D := D) (L := L) (ts := ts) (a := a) (b := b)) (ci_b (decide_eq_false hne))) (by intro a w; kernel_rfl) ?_
    refine ⟨by kernel_rfl, ?_⟩
    refine nx (sl 0 rfl (sl 1 rfl (sl 4 rfl (sl 6 rfl (sl 7 rfl (sl 12 rfl (sl 13 rfl (sl 14 rfl (sl 21 rfl sn))))))))) (el 600 rfl (el 10 rfl (el 313 rfl en))) ?_
    refine tri_false rfl rfl ?_
    refine tri_skip ?_
    refine pn_blk ?_
    refine nx (sl 0 rfl (sl 1 rfl (sl 4 rfl (sl 12 rfl (sl 13 rfl (sl 14 rfl sn)))))) (el 600 rfl (el 10 rfl (el 313 rfl en))) ?_
    refine tri_reg mixed hcx ?_ _ _
    refine ad (((e + 1 : Nat) : Int)) rfl rfl rfl (by omega) ?_
    refine mv rfl ?_
    refine ⟨by kernel_rfl, ?_⟩
    exact pn_back (e + 1) (by first | omega | (dsimp only; omega)) (by omega) (sl 0 rfl (sl 1 rfl (sl 4 rfl (sl 12 rfl (sl 13 rfl (sl 14 rfl sn)))))) (el 600 rfl (el 10 rfl en))
  · refine tri_exit ?_
    repeat (first | refine pn_then ?_ | refine pn_oth (by decide) ?_)
    refine pn_ex ?_
    refine nx (sl 4 rfl sn) (el 600 rfl (el 10 rfl en)) ?_
    refine tri_seq ?_
    refine tri_reg mixed hcx ?_ _ _
    refine nw 810 zeJb ?_
    refine ⟨by kernel_rfl, ?_⟩
    refine nx (sl 4 rfl (sl 8 rfl sn)) (el 600 rfl (el 10 rfl (el 810 rfl en))) ?_
    refine tri_seq ?_
    refine tri_reg mixed hcx ?_ _ _
    refine ld rfl rfl tyJb rfl ?_
    refine st rfl rfl rfl tyJb rfl ?_
    refine asg rfl ?_
    refine ⟨by kernel_rfl, ?_⟩
    refine nx (sl 4 rfl (sl 5 rfl sn)) (el 600 rfl (el 10 rfl (el 810 rfl en))) ?_
    refine tri_ret ?_
    repeat (first | refine pn_thenr ?_ | refine pn_blkr ?_)
    exact ret2 hcx rfl (rv_cell (c' := cx) (n := 0) rfl rfl tyJb rfl) (rv_tmp rfl) (.refl _) (el 600 rfl en)
end Go.Proofs.Ytekghdfbhbhigaa.V
/- A tree cut into jobs: Jobs. -/
set_option linter.unusedVariables false
set_option linter.unusedSimpArgs false
set_option maxRecDepth 100000
namespace Go.Proofs.Ytekghdfbhbhigaa.V
open Go.RowKit Mt Nml
theorem row_ap' {α : Type} {c : Cod α} {e : TypeId} {l l' : List α} (h : l = l') : (Ent.row c e l).le (Ent.ap c e l') := by subst h; exact row_ap
theorem ap_eq {α : Type} {c : Cod α} {e : TypeId} {l l' : List α} (h : l = l') : (Ent.ap c e l).le (Ent.ap c e l') := by subst h; exact fun _ _ _ _ _ h => h
/-- What comes of cutting a tree. -/
def JRes (k : Nat) (res : Option (List (List Int) × List (List Int))) : T := ⟨[], 0, false, fun β u v => match res with
  | some p => (T.tup [T.l (cL (cZ k)) p.1, T.l (cJ k) p.2, T.c (.int .i64 0)]).rep β u v
  | none => (T.tup [T.c (.slice none 0 0), T.c (.slice none 0 0), T.c (.int .i64 2)]).rep β u v, fun _ h => absurd rfl h, fun hs h => by
    cases res with
    | some p => exact (T.tup _).mono hs h
    | none => exact (T.tup _).mono hs h, fun hn h => by
    cases res with
    | some p => exact (T.tup [T.l (cL (cZ k)) p.1, T.l (cJ k) p.2, T.c (.int .i64 0)]).ext (fun e he => by cases he) h
    | none => exact (T.tup [T.c (.slice none 0 0), T.c (.slice none 0 0), T.c (.int .i64 2)]).ext (fun e he => by cases he) h⟩
theorem jr_some {k : Nat} {d l : List (List Int)} {res : Option (List (List Int) × List (List Int))} (h : res = some (d, l)) : (T.tup [T.l (cL (cZ k)) d, T.l (cJ k) l, T.c (.int .i64 0)]).le (JRes k res) := by subst h; exact fun _ _ _ h => h
theorem jr_none {k : Nat} {res : Option (List (List Int) × List (List Int))} (h : res = none) : (T.tup [T.c (.slice none 0 0), T.c (.slice none 0 0), T.c (.int .i64 2)]).le (JRes k res) := by subst h; exact fun _ _ _ h => h

theorem sp_Jobs {D : List Int} {L : List (List Int)} {ts : List (Int × Int)} {a b : Int} {n k : Nat} (h : TrS D L ts n k) (hb : 0 < b) (ha : 0 ≤ a) {many N : Nat} {dd ll : Nat → List (List Int)} {res : Option (List (List Int) × List (List Int))} (hmany1 : 1 ≤ many) (hmany : many ≤ 4096) (h0 : dd 0 = []) (h1 : ll 0 = [[]]) (hst : ∀ j, j < N → Stp D L ts n k ((a : Rat) / (b : Rat)) many (dd j) (ll j) (dd (j + 1)) (ll (j + 1))) (hend : Sto D L ts n k ((a : Rat) / (b : Rat)) many (dd N) (ll N) res) : Fn Try.prog 10 [T.Tr D L ts a b k, T.c (.int .i64 (many : Int))] [] [] [] (JRes k res) := by
  refine fn_of Try.func10 rfl (by show 2 ≤ 89; decide) fun cx hcx => ?_
  refine tri_sub (sl 0 rfl (sl 1 rfl sn)) en ?_
  have hn12 := h.twelve
  have hkk := h.hk
  have hlL := h.len
  have hn0 := h.pos
  refine tri_seq ?_
  refine tri_reg mixed hcx ?_ _ _
  refine bxs 10 rfl ?_
  refine asg rfl ?_
  refine asg rfl ?_
  refine asg rfl ?_
  refine ⟨by kernel_rfl, ?_⟩
  refine nx (sl 1 rfl (sl 2 rfl sn)) (el 10 rfl en) ?_
  refine tri_seq ?_
  refine tri_seq ?_
  refine tri_reg mixed hcx ?_ _ _
  refine ld rfl rfl tyTr rfl ?_
  refine ca rfl (h := t_Valid h hb ha) (hn := ?_)
  refine asg rfl ?_
  refine ⟨by kernel_rfl, ?_⟩
  refine nx (sl 1 rfl (sl 2 rfl (sl 7 rfl sn))) (el 10 rfl en) ?_
  refine tri_seq ?_
  refine tri_reg mixed hcx ?_ _ _
  refine mv rfl ?_
  refine cne rfl rfl (decide_eq_false (by omega)) ?_
  refine ⟨by kernel_rfl, ?_⟩
  refine nx (sl 1 rfl (sl 2 rfl (sl 7 rfl (sl 20 rfl sn)))) (el 10 rfl en) ?_
  refine tri_false rfl rfl ?_
  refine tri_skip ?_
  refine nx (sl 1 rfl (sl 2 rfl sn)) (el 10 rfl en) ?_
  refine tri_seq ?_
  refine tri_seq ?_
  refine tri_reg mixed hcx ?_ _ _
  refine mv rfl ?_
  refine clt rfl rfl (decide_eq_false (by omega)) ?_
  refine mv rfl ?_
  refine mv rfl ?_ (hg := gd1)
  refine cgt rfl rfl (decide_eq_false (by omega)) ?_ (hg := gd1)
  refine pk rfl rfl ?_
  refine ⟨by kernel_rfl, ?_⟩
  refine nx (sl 1 rfl (sl 2 rfl (sl 27 rfl sn))) (el 10 rfl en) ?_
  refine tri_false rfl rfl ?_
  refine tri_skip ?_
  refine nx (sl 1 rfl (sl 2 rfl sn)) (el 10 rfl en) ?_
  refine tri_seq ?_
  refine tri_reg mixed hcx ?_ _ _
  refine asg rfl ?_
  refine ⟨by kernel_rfl, ?_⟩
  refine nx (sl 1 rfl (sl 2 rfl (sl 8 rfl sn))) (el 10 rfl en) ?_
  refine tri_seq ?_
  refine tri_reg mixed hcx ?_ _ _
  refine bu stQj rfl ?_
  refine bxs 600 rfl ?_
  refine asg rfl ?_
  refine ⟨by kernel_rfl, ?_⟩
  refine nx (sl 1 rfl (sl 2 rfl (sl 8 rfl (sl 9 rfl sn)))) (el 10 rfl (el 600 rfl en)) ?_
  refine tri_seq ?_
  refine tri_fzb 2 10 rfl rfl (fun h => Nat.noConfusion h) ?_
  refine tri_nil 8 9 31 (cL (cZ k)) rfl (by rw [hcx]; kernel_rfl) ?_
  refine tri_reg mixed hcx ?_ _ _
  refine mv rfl ?_
  refine bu stJb rfl ?_
  refine cae (hE := (el 600 rfl en)) (hl := ⟨.refl _, st_le ⟨nil_l _, trivial⟩, trivial⟩) rfl (h := sp_put0 (l := []) (q := []) (k := k)) (hn := ?_)
  refine ⟨by kernel_rfl, ?_⟩
  refine nx (sl 1 rfl (sl 2 rfl (sl 8 rfl (sl 9 rfl sn)))) (el 9 rfl (el 600 rfl (el 601 rfl en))) ?_
  refine tri_seq ?_
  refine tri_block ?_
  refine tri_loop (ι := Nat) (fun j => [(1, T.c (.int .i64 (many : Int))), (2, T.fp (T.Tr D L ts a b k)), (8, T.o 9), (9, T.p 600 0)]) (fun j => [(9, some (Ent.row (cL (cZ k)) 31 (dd j))), (600, some (Ent.box 68 [T.o 601])), (601, some (Ent.ap (cJ k) 49 (ll j)))]) (fun j => N + 1 - j) (fun j => (j ≤ N)) 0 (Nat.zero_le _) (sl 1 rfl (sl 2 rfl (sl 8 rfl (sl 9 rfl sn)))) (ew 9 rfl (.of (by rw [h0])) (el 600 rfl (ew 601 rfl (row_ap' h1.symm) en))) ?_
  rintro j hj
  refine tri_sub (sl 1 rfl (sl 2 rfl (sl 8 rfl (sl 9 rfl sn)))) (el 9 rfl (el 600 rfl (el 601 rfl en))) ?_
  have h4 : (many ≤ (ll j).length ∧ res = some (dd j, ll j)) ∨ ((ll j).length < many ∧ (∀ i, i < (ll j).length → ¬ ((ll j).getD i []).length < n) ∧ res = some (dd j, ll j)) ∨ (∃ i m, Cut D L ts n k ((a : Rat) / (b : Rat)) many (dd j) (ll j) i m ∧ 65536 < m ∧ res = none) ∨ (j < N ∧ Stp D L ts n k ((a : Rat) / (b : Rat)) many (dd j) (ll j) (dd (j + 1)) (ll (j + 1))) := by
            rcases Nat.lt_or_ge j N with h | h
            · exact .inr (.inr (.inr ⟨h, hst j h⟩))
            · obtain rfl : j = N := by omega
              rcases hend with h | h | h
              · exact .inl h
              · exact .inr (.inl h)
              · exact .inr (.inr (.inl h))
  refine tri_seq ?_
  refine tri_seq ?_
  rcases h4 with ⟨hf, hres⟩ | ⟨hlm, hsh, hres⟩ | ⟨i, m, hcut, hm, hres⟩ | ⟨hlt, i, m, hcut, hm, hdn, hln⟩
  · refine tri_reg mixed hcx ?_ _ _
    refine mv rfl ?_
    refine nk rfl ?_
    refine fa rfl fQjL 0 ?_
    refine ld rfl rfl tyJbs rfl ?_
    refine lna slJbs rfl rfl ?_
    refine mv rfl ?_
    refine clt rfl rfl (decide_eq_false (by omega)) ?_
    refine ⟨by kernel_rfl, ?_⟩
    refine nx (sl 1 rfl (sl 2 rfl (sl 8 rfl (sl 9 rfl (sl 39 rfl sn))))) (el 9 rfl (el 600 rfl (el 601 rfl en))) ?_
    refine tri_false rfl rfl ?_
    refine tri_exit ?_
    repeat (first | refine pn_then ?_ | refine pn_oth (by decide) ?_)
    refine pn_ex ?_
    refine nx (sl 8 rfl (sl 9 rfl sn)) (el 9 rfl (el 600 rfl (el 601 rfl en))) ?_
    refine tri_seq ?_
    refine tri_fza 601 rfl ?_
    refine tri_rdb (bl := [T.o 601]) (bl' := [T.l (cJ k) (ll j)]) 600 601 rfl rfl ⟨.inr ⟨rfl, rfl⟩, trivial⟩ ?_
    refine tri_reg mixed hcx ?_ _ _
    refine mv rfl ?_
    refine mv rfl ?_
    refine nk rfl ?_
    refine fa rfl fQjL 0 ?_
    refine ld rfl rfl tyJbs rfl ?_
    refine asg rfl ?_
    refine asg rfl ?_
    refine asg rfl ?_
    refine ⟨by kernel_rfl, ?_⟩
    refine nx (sl 4 rfl (sl 5 rfl (sl 6 rfl sn))) (el 9 rfl (el 600 rfl en)) ?_
    refine tri_fz 9 rfl ?_
    refine tri_rd 4 9 rfl rfl ?_
    refine tri_ret ?_
    repeat (first | refine pn_thenr ?_ | refine pn_blkr ?_)
    exact ret3 hcx rfl (rv_tmp rfl) (rv_tmp rfl) (rv_tmp rfl) (jr_some hres) en
  · have hshL : ∀ i, i < (ll j).length → ¬ ((ll j).getD i []).length < L.length := by rw [hlL]; exact hsh
    refine tri_reg mixed hcx ?_ _ _
    refine mv rfl ?_
    refine nk rfl ?_
    refine fa rfl fQjL 0 ?_
    refine ld rfl rfl tyJbs rfl ?_
    refine lna slJbs rfl rfl ?_
    refine mv rfl ?_
    refine clt rfl rfl (decide_eq_true (by omega)) ?_
    refine ⟨by kernel_rfl, ?_⟩
    refine nx (sl 1 rfl (sl 2 rfl (sl 8 rfl (sl 9 rfl (sl 39 rfl sn))))) (el 9 rfl (el 600 rfl (el 601 rfl en))) ?_
    refine tri_true rfl rfl ?_
    refine tri_skip ?_
    refine nx (sl 1 rfl (sl 2 rfl (sl 8 rfl (sl 9 rfl sn)))) (el 9 rfl (el 600 rfl (el 601 rfl en))) ?_
    refine tri_block ?_
    refine tri_seq ?_
    refine tri_reg mixed hcx ?_ _ _
    refine mv rfl ?_
    refine mf rfl ?_
    refine cae (hE := (el 600 rfl (el 601 rfl en))) rfl (h := sp_take_no (k := k) (k2 := k) (by omega) hshL) (hn := ?_)
    refine mv rfl ?_
    refine ex rfl rfl ?_
    refine ex rfl rfl ?_
    refine nw 1016 zeJb ?_
    refine sts rfl rfl rfl tyJb rfl ?_
    refine asg rfl ?_
    refine ⟨by kernel_rfl, ?_⟩
    refine nx (sl 1 rfl (sl 2 rfl (sl 8 rfl (sl 9 rfl (sl 10 rfl (sl 11 rfl sn)))))) (el 9 rfl (el 600 rfl (el 1016 rfl en))) ?_
    refine tri_seq ?_
    refine tri_seq ?_
    refine tri_reg mixed hcx ?_ _ _
    refine mv rfl ?_
    refine nt rfl _ rfl ?_
    refine ⟨by kernel_rfl, ?_⟩
    refine nx (sl 1 rfl (sl 2 rfl (sl 8 rfl (sl 9 rfl (sl 10 rfl (sl 47 rfl sn)))))) (el 9 rfl (el 600 rfl (el 1016 rfl en))) ?_
    refine tri_true rfl rfl ?_
    refine tri_exit ?_
    repeat (first | refine pn_then ?_ | refine pn_oth (by decide) ?_)
    refine pn_ex ?_
    refine nx (sl 8 rfl (sl 9 rfl sn)) (el 9 rfl (el 600 rfl (el 1016 rfl en))) ?_
    refine tri_seq ?_
    refine tri_reg mixed hcx ?_ _ _
    refine mv rfl ?_
    refine mv rfl ?_
    refine nk rfl ?_
    refine fa rfl fQjL 0 ?_
    refine ld rfl rfl tyJbs rfl ?_
    refine asg rfl ?_
    refine asg rfl ?_
    refine asg rfl ?_
    refine ⟨by kernel_rfl, ?_⟩
    refine nx (sl 4 rfl (sl 5 rfl (sl 6 rfl sn))) (el 9 rfl (el 600 rfl (el 1016 rfl en))) ?_
    refine tri_fz 9 rfl ?_
    refine tri_rd 4 9 rfl rfl ?_
    refine tri_ret ?_
    repeat (first | refine pn_thenr ?_ | refine pn_blkr ?_)
    exact ret3 hcx rfl (rv_tmp rfl) (rv_tmp rfl) (rv_tmp rfl) (jr_some hres) en
  · have hlm := hcut.lt
    have hoi := hcut.ho
    have hdl := hcut.dl
    have hii := hcut.hi
    have hoL : (((ll j).getD i [])).length < L.length := by omega
    have hcL : ∀ j2, j2 < i → ¬ ((ll j).getD j2 []).length < L.length := fun j2 hj2 => by rw [hlL]; exact hcut.hc j2 hj2
    have hbl : ((ll j).take i ++ (ll j).drop (i + 1)).length + 1 = (ll j).length := by rw [List.length_append, List.length_take, List.length_drop]; omega
    refine tri_reg mixed hcx ?_ _ _
    refine mv rfl ?_
    refine nk rfl ?_
    refine fa rfl fQjL 0 ?_
    refine ld rfl rfl tyJbs rfl ?_
    refine lna slJbs rfl rfl ?_
    refine mv rfl ?_
    refine clt rfl rfl (decide_eq_true (by omega)) ?_
    refine ⟨by kernel_rfl, ?_⟩
    refine nx (sl 1 rfl (sl 2 rfl (sl 8 rfl (sl 9 rfl (sl 39 rfl sn))))) (el 9 rfl (el 600 rfl (el 601 rfl en))) ?_
    refine tri_true rfl rfl ?_
    refine tri_skip ?_
    refine nx (sl 1 rfl (sl 2 rfl (sl 8 rfl (sl 9 rfl sn)))) (el 9 rfl (el 600 rfl (el 601 rfl en))) ?_
    refine tri_block ?_
    refine tri_seq ?_
    refine tri_reg mixed hcx ?_ _ _
    refine mv rfl ?_
    refine mf rfl ?_
    refine cae (hE := (el 600 rfl (el 601 rfl en))) rfl (h := sp_take (k := k) (k2 := k) (i := i) (by omega) hcut.hi hoL hcL) (hn := ?_)
    refine mv rfl ?_
    refine ex rfl rfl ?_
    refine ex rfl rfl ?_
    refine nw 1016 zeJb ?_
    refine sts rfl rfl rfl tyJb rfl ?_
    refine asg rfl ?_
    refine ⟨by kernel_rfl, ?_⟩
    refine nx (sl 1 rfl (sl 2 rfl (sl 8 rfl (sl 9 rfl (sl 10 rfl (sl 11 rfl sn)))))) (el 9 rfl (el 600 rfl (el 602 rfl (el 1016 rfl en)))) ?_
    refine tri_seq ?_
    refine tri_seq ?_
    refine tri_reg mixed hcx ?_ _ _
    refine mv rfl ?_
    refine nt rfl _ rfl ?_
    refine ⟨by kernel_rfl, ?_⟩
    refine nx (sl 1 rfl (sl 2 rfl (sl 8 rfl (sl 9 rfl (sl 10 rfl (sl 47 rfl sn)))))) (el 9 rfl (el 600 rfl (el 602 rfl (el 1016 rfl en)))) ?_
    refine tri_false rfl rfl ?_
    refine tri_skip ?_
    refine nx (sl 1 rfl (sl 2 rfl (sl 8 rfl (sl 9 rfl (sl 10 rfl sn))))) (el 9 rfl (el 600 rfl (el 602 rfl (el 1016 rfl en)))) ?_
    refine tri_seq ?_
    refine tri_seq ?_
    rcases Nat.eq_zero_or_pos ((ll j).getD i []).length with hz | hp
    · refine tri_reg mixed hcx ?_ _ _
      refine fa rfl fJbR 0 ?_
      refine ld rfl rfl tyZs rfl ?_
      refine ln slZs rfl ?_
      refine cgt rfl rfl (decide_eq_false (by omega)) ?_
      refine ⟨by kernel_rfl, ?_⟩
      refine nx (sl 1 rfl (sl 2 rfl (sl 8 rfl (sl 9 rfl (sl 10 rfl (sl 51 rfl sn)))))) (el 9 rfl (el 600 rfl (el 602 rfl (el 1016 rfl en)))) ?_
      refine tri_false rfl rfl ?_
      refine tri_skip ?_
      refine nx (sl 1 rfl (sl 2 rfl (sl 8 rfl (sl 9 rfl (sl 10 rfl sn))))) (el 9 rfl (el 600 rfl (el 602 rfl (el 1016 rfl en)))) ?_
      refine tri_seq ?_
      refine tri_reg mixed hcx ?_ _ _
      refine lf rfl tyTr ?_
      refine fa rfl fJbR 0 ?_
      refine ld rfl rfl tyZs rfl ?_
      refine ca rfl (h := (fn_out (t_Kids (m := m) (mo := 65536) (s := ((ll j).getD i [])) h hb ha (by omega) hcut.kd.zl hcut.kd.w hcut.kd.n (by decide) hcut.wi) (tup_le (l' := [T.l (cZ k) (kl (cq_ D L ts n ((ll j).getD i [])) 65536), T.c (.bool false), T.c (.int .i64 0)]) ⟨.of (by rw [Nat.min_eq_right (by omega)]; rfl), ci_b (decide_eq_false (by omega)), .refl _, trivial⟩))) (hn := ?_)
      refine mv rfl ?_
      refine ex rfl rfl ?_
      refine ex rfl rfl ?_
      refine ex rfl rfl ?_
      refine asg rfl ?_
      refine asg rfl ?_
      refine asg rfl ?_
      refine ⟨by kernel_rfl, ?_⟩
      refine nx (sl 1 rfl (sl 2 rfl (sl 8 rfl (sl 9 rfl (sl 10 rfl (sl 12 rfl (sl 13 rfl (sl 14 rfl sn)))))))) (el 9 rfl (el 600 rfl (el 602 rfl (el 1016 rfl en)))) ?_
      refine tri_seq ?_
      refine tri_seq ?_
      refine tri_reg mixed hcx ?_ _ _
      refine mv rfl ?_
      refine cne rfl rfl (decide_eq_false (by omega)) ?_
      refine ⟨by kernel_rfl, ?_⟩
      refine nx (sl 1 rfl (sl 2 rfl (sl 8 rfl (sl 9 rfl (sl 10 rfl (sl 12 rfl (sl 13 rfl (sl 14 rfl (sl 66 rfl sn))))))))) (el 9 rfl (el 600 rfl (el 602 rfl (el 1016 rfl en)))) ?_
      refine tri_false rfl rfl ?_
      refine tri_skip ?_
      refine nx (sl 1 rfl (sl 2 rfl (sl 8 rfl (sl 9 rfl (sl 10 rfl (sl 12 rfl (sl 13 rfl sn))))))) (el 9 rfl (el 600 rfl (el 602 rfl (el 1016 rfl en)))) ?_
      refine tri_seq ?_
      refine tri_seq ?_
      refine tri_reg mixed hcx ?_ _ _
      refine mv rfl ?_
      refine nt rfl _ rfl ?_
      refine ⟨by kernel_rfl, ?_⟩
      refine nx (sl 1 rfl (sl 2 rfl (sl 8 rfl (sl 9 rfl (sl 10 rfl (sl 12 rfl (sl 69 rfl sn))))))) (el 9 rfl (el 600 rfl (el 602 rfl (el 1016 rfl en)))) ?_
      refine tri_true rfl rfl ?_
      refine tri_seq ?_
      refine tri_reg mixed hcx ?_ _ _
      refine asg rfl ?_
      refine asg rfl ?_
      refine asg rfl ?_
      refine ⟨by kernel_rfl, ?_⟩
      refine nx (sl 4 rfl (sl 5 rfl (sl 6 rfl sn))) (el 9 rfl (el 600 rfl (el 602 rfl (el 1016 rfl en)))) ?_
      refine tri_ret ?_
      repeat (first | refine pn_thenr ?_ | refine pn_blkr ?_)
      exact ret3 hcx rfl (rv_tmp rfl) (rv_tmp rfl) (rv_tmp rfl) (jr_none hres) en
    · refine tri_reg mixed hcx ?_ _ _
      refine fa rfl fJbR 0 ?_
      refine ld rfl rfl tyZs rfl ?_
      refine ln slZs rfl ?_
      refine cgt rfl rfl (decide_eq_true (by omega)) ?_
      refine ⟨by kernel_rfl, ?_⟩
      refine nx (sl 1 rfl (sl 2 rfl (sl 8 rfl (sl 9 rfl (sl 10 rfl (sl 51 rfl sn)))))) (el 9 rfl (el 600 rfl (el 602 rfl (el 1016 rfl en)))) ?_
      refine tri_true rfl rfl ?_
      refine tri_reg mixed hcx ?_ _ _
      refine mv rfl ?_
      refine fa rfl fJbR 0 ?_
      refine ld rfl rfl tyZs rfl ?_
      refine bs (c := cL (cZ k)) (xs := [((ll j).getD i [])]) slZss rfl ⟨.refl _, trivial⟩ ?_
      refine ap 1314 rfl rfl rfl slZss (by simp only [List.length_cons, List.length_nil]; omega) (by decide) ?_
      refine asg rfl ?_
      refine ⟨by kernel_rfl, ?_⟩
      refine nx (sl 1 rfl (sl 2 rfl (sl 8 rfl (sl 9 rfl (sl 10 rfl sn))))) (el 600 rfl (el 602 rfl (el 1016 rfl (el 1314 rfl en)))) ?_
      refine tri_seq ?_
      refine tri_reg mixed hcx ?_ _ _
      refine lf rfl tyTr ?_
      refine fa rfl fJbR 0 ?_
      refine ld rfl rfl tyZs rfl ?_
      refine ca rfl (h := (fn_out (t_Kids (m := m) (mo := 65536) (s := ((ll j).getD i [])) h hb ha (by omega) hcut.kd.zl hcut.kd.w hcut.kd.n (by decide) hcut.wi) (tup_le (l' := [T.l (cZ k) (kl (cq_ D L ts n ((ll j).getD i [])) 65536), T.c (.bool false), T.c (.int .i64 0)]) ⟨.of (by rw [Nat.min_eq_right (by omega)]; rfl), ci_b (decide_eq_false (by omega)), .refl _, trivial⟩))) (hn := ?_)
      refine mv rfl ?_
      refine ex rfl rfl ?_
      refine ex rfl rfl ?_
      refine ex rfl rfl ?_
      refine asg rfl ?_
      refine asg rfl ?_
      refine asg rfl ?_
      refine ⟨by kernel_rfl, ?_⟩
      refine nx (sl 1 rfl (sl 2 rfl (sl 8 rfl (sl 9 rfl (sl 10 rfl (sl 12 rfl (sl 13 rfl (sl 14 rfl sn)))))))) (el 600 rfl (el 602 rfl (el 1016 rfl (el 1314 rfl en)))) ?_
      refine tri_seq ?_
      refine tri_seq ?_
      refine tri_reg mixed hcx ?_ _ _
      refine mv rfl ?_
      refine cne rfl rfl (decide_eq_false (by omega)) ?_
      refine ⟨by kernel_rfl, ?_⟩
      refine nx (sl 1 rfl (sl 2 rfl (sl 8 rfl (sl 9 rfl (sl 10 rfl (sl 12 rfl (sl 13 rfl (sl 14 rfl (sl 66 rfl sn))))))))) (el 600 rfl (el 602 rfl (el 1016 rfl (el 1314 rfl en)))) ?_
      refine tri_false rfl rfl ?_
      refine tri_skip ?_
      refine nx (sl 1 rfl (sl 2 rfl (sl 8 rfl (sl 9 rfl (sl 10 rfl (sl 12 rfl (sl 13 rfl sn))))))) (el 600 rfl (el 602 rfl (el 1016 rfl (el 1314 rfl en)))) ?_
      refine tri_seq ?_
      refine tri_seq ?_
      refine tri_reg mixed hcx ?_ _ _
      refine mv rfl ?_
      refine nt rfl _ rfl ?_
      refine ⟨by kernel_rfl, ?_⟩
      refine nx (sl 1 rfl (sl 2 rfl (sl 8 rfl (sl 9 rfl (sl 10 rfl (sl 12 rfl (sl 69 rfl sn))))))) (el 600 rfl (el 602 rfl (el 1016 rfl (el 1314 rfl en)))) ?_
      refine tri_true rfl rfl ?_
      refine tri_seq ?_
      refine tri_reg mixed hcx ?_ _ _
      refine asg rfl ?_
      refine asg rfl ?_
      refine asg rfl ?_
      refine ⟨by kernel_rfl, ?_⟩
      refine nx (sl 4 rfl (sl 5 rfl (sl 6 rfl sn))) (el 600 rfl (el 602 rfl (el 1016 rfl (el 1314 rfl en)))) ?_
      refine tri_ret ?_
      repeat (first | refine pn_thenr ?_ | refine pn_blkr ?_)
      exact ret3 hcx rfl (rv_tmp rfl) (rv_tmp rfl) (rv_tmp rfl) (jr_none hres) en
  · have hlm := hcut.lt
    have hoi := hcut.ho
    have hdl := hcut.dl
    have hii := hcut.hi
    have hoL : (((ll j).getD i [])).length < L.length := by omega
    have hcL : ∀ j2, j2 < i → ¬ ((ll j).getD j2 []).length < L.length := fun j2 hj2 => by rw [hlL]; exact hcut.hc j2 hj2
    have hbl : ((ll j).take i ++ (ll j).drop (i + 1)).length + 1 = (ll j).length := by rw [List.length_append, List.length_take, List.length_drop]; omega
    refine tri_reg mixed hcx ?_ _ _
    refine mv rfl ?_
    refine nk rfl ?_
    refine fa rfl fQjL 0 ?_
    refine ld rfl rfl tyJbs rfl ?_
    refine lna slJbs rfl rfl ?_
    refine mv rfl ?_
    refine clt rfl rfl (decide_eq_true (by omega)) ?_
    refine ⟨by kernel_rfl, ?_⟩
    refine nx (sl 1 rfl (sl 2 rfl (sl 8 rfl (sl 9 rfl (sl 39 rfl sn))))) (el 9 rfl (el 600 rfl (el 601 rfl en))) ?_
    refine tri_true rfl rfl ?_
    refine tri_skip ?_
    refine nx (sl 1 rfl (sl 2 rfl (sl 8 rfl (sl 9 rfl sn)))) (el 9 rfl (el 600 rfl (el 601 rfl en))) ?_
    refine tri_block ?_
    refine tri_seq ?_
    refine tri_reg mixed hcx ?_ _ _
    refine mv rfl ?_
    refine mf rfl ?_
    refine cae (hE := (el 600 rfl (el 601 rfl en))) rfl (h := sp_take (k := k) (k2 := k) (i := i) (by omega) hcut.hi hoL hcL) (hn := ?_)
    refine mv rfl ?_
    refine ex rfl rfl ?_
    refine ex rfl rfl ?_
    refine nw 1016 zeJb ?_
    refine sts rfl rfl rfl tyJb rfl ?_
    refine asg rfl ?_
    refine ⟨by kernel_rfl, ?_⟩
    refine nx (sl 1 rfl (sl 2 rfl (sl 8 rfl (sl 9 rfl (sl 10 rfl (sl 11 rfl sn)))))) (el 9 rfl (el 600 rfl (el 602 rfl (el 1016 rfl en)))) ?_
    refine tri_seq ?_
    refine tri_seq ?_
    refine tri_reg mixed hcx ?_ _ _
    refine mv rfl ?_
    refine nt rfl _ rfl ?_
    refine ⟨by kernel_rfl, ?_⟩
    refine nx (sl 1 rfl (sl 2 rfl (sl 8 rfl (sl 9 rfl (sl 10 rfl (sl 47 rfl sn)))))) (el 9 rfl (el 600 rfl (el 602 rfl (el 1016 rfl en)))) ?_
    refine tri_false rfl rfl ?_
    refine tri_skip ?_
    refine nx (sl 1 rfl (sl 2 rfl (sl 8 rfl (sl 9 rfl (sl 10 rfl sn))))) (el 9 rfl (el 600 rfl (el 602 rfl (el 1016 rfl en)))) ?_
    refine tri_seq ?_
    refine tri_seq ?_
    rcases Nat.eq_zero_or_pos ((ll j).getD i []).length with hz | hp
    · refine tri_reg mixed hcx ?_ _ _
      refine fa rfl fJbR 0 ?_
      refine ld rfl rfl tyZs rfl ?_
      refine ln slZs rfl ?_
      refine cgt rfl rfl (decide_eq_false (by omega)) ?_
      refine ⟨by kernel_rfl, ?_⟩
      refine nx (sl 1 rfl (sl 2 rfl (sl 8 rfl (sl 9 rfl (sl 10 rfl (sl 51 rfl sn)))))) (el 9 rfl (el 600 rfl (el 602 rfl (el 1016 rfl en)))) ?_
      refine tri_false rfl rfl ?_
      refine tri_skip ?_
      refine nx (sl 1 rfl (sl 2 rfl (sl 8 rfl (sl 9 rfl (sl 10 rfl sn))))) (el 9 rfl (el 600 rfl (el 602 rfl (el 1016 rfl en)))) ?_
      refine tri_seq ?_
      refine tri_reg mixed hcx ?_ _ _
      refine lf rfl tyTr ?_
      refine fa rfl fJbR 0 ?_
      refine ld rfl rfl tyZs rfl ?_
      refine ca rfl (h := (fn_out (t_Kids (m := m) (mo := 65536) (s := ((ll j).getD i [])) h hb ha (by omega) hcut.kd.zl hcut.kd.w hcut.kd.n (by decide) hcut.wi) (tup_le (l' := [T.l (cZ k) (kl (cq_ D L ts n ((ll j).getD i [])) m), T.c (.bool true), T.c (.int .i64 0)]) ⟨.of (by rw [Nat.min_eq_left (by omega)]; rfl), ci_b (decide_eq_true (by omega)), .refl _, trivial⟩))) (hn := ?_)
      refine mv rfl ?_
      refine ex rfl rfl ?_
      refine ex rfl rfl ?_
      refine ex rfl rfl ?_
      refine asg rfl ?_
      refine asg rfl ?_
      refine asg rfl ?_
      refine ⟨by kernel_rfl, ?_⟩
      refine nx (sl 1 rfl (sl 2 rfl (sl 8 rfl (sl 9 rfl (sl 10 rfl (sl 12 rfl (sl 13 rfl (sl 14 rfl sn)))))))) (el 9 rfl (el 600 rfl (el 602 rfl (el 1016 rfl en)))) ?_
      refine tri_seq ?_
      refine tri_seq ?_
      refine tri_reg mixed hcx ?_ _ _
      refine mv rfl ?_
      refine cne rfl rfl (decide_eq_false (by omega)) ?_
      refine ⟨by kernel_rfl, ?_⟩
      refine nx (sl 1 rfl (sl 2 rfl (sl 8 rfl (sl 9 rfl (sl 10 rfl (sl 12 rfl (sl 13 rfl (sl 14 rfl (sl 66 rfl sn))))))))) (el 9 rfl (el 600 rfl (el 602 rfl (el 1016 rfl en)))) ?_
      refine tri_false rfl rfl ?_
      refine tri_skip ?_
      refine nx (sl 1 rfl (sl 2 rfl (sl 8 rfl (sl 9 rfl (sl 10 rfl (sl 12 rfl (sl 13 rfl sn))))))) (el 9 rfl (el 600 rfl (el 602 rfl (el 1016 rfl en)))) ?_
      refine tri_seq ?_
      refine tri_seq ?_
      refine tri_reg mixed hcx ?_ _ _
      refine mv rfl ?_
      refine nt rfl _ rfl ?_
      refine ⟨by kernel_rfl, ?_⟩
      refine nx (sl 1 rfl (sl 2 rfl (sl 8 rfl (sl 9 rfl (sl 10 rfl (sl 12 rfl (sl 69 rfl sn))))))) (el 9 rfl (el 600 rfl (el 602 rfl (el 1016 rfl en)))) ?_
      refine tri_false rfl rfl ?_
      refine tri_skip ?_
      refine nx (sl 1 rfl (sl 2 rfl (sl 8 rfl (sl 9 rfl (sl 10 rfl (sl 12 rfl sn)))))) (el 9 rfl (el 600 rfl (el 602 rfl (el 1016 rfl en)))) ?_
      refine tri_seq ?_
      refine tri_reg mixed hcx ?_ _ _
      refine mv rfl ?_
      refine ln slZs rfl ?_
      refine mv rfl ?_
      refine ⟨by kernel_rfl, ?_⟩
      refine nx (sl 1 rfl (sl 2 rfl (sl 8 rfl (sl 9 rfl (sl 10 rfl (sl 70 rfl (sl 71 rfl (sl 72 rfl sn)))))))) (el 9 rfl (el 600 rfl (el 602 rfl (el 1016 rfl en)))) ?_
      refine tri_block ?_
      refine tri_loop (ι := Nat) (fun e => [(1, T.c (.int .i64 (many : Int))), (2, T.fp (T.Tr D L ts a b k)), (8, T.o 9), (9, T.p 600 0), (10, T.p 1016 0), (70, T.l (cZ k) (kl (cq_ D L ts n ((ll j).getD i [])) m)), (71, T.c (.int .i64 ((kl (cq_ D L ts n ((ll j).getD i [])) m).length : Int))), (72, T.c (.int .i64 (e : Int)))]) (fun e => [(9, some (Ent.row (cL (cZ k)) 31 (dd j))), (600, some (Ent.box 68 [T.o 602])), (602, some (Ent.ap (cJ k) 49 ((ll j).take i ++ (ll j).drop (i + 1) ++ kdL D L ts n ((ll j).getD i []) e))), (1016, some (Ent.box 49 [T.l (cZ k) ((ll j).getD i [])]))]) (fun e => m - e) (fun e => (e ≤ m)) 0 (Nat.zero_le _) (sl 1 rfl (sl 2 rfl (sl 8 rfl (sl 9 rfl (sl 10 rfl (sl 70 rfl (sl 71 rfl (sl 72 rfl sn)))))))) (el 9 rfl (el 600 rfl (ew 602 rfl (ap_eq (List.append_nil _).symm) (el 1016 rfl en)))) ?_
      rintro e he
      refine tri_sub (sl 1 rfl (sl 2 rfl (sl 8 rfl (sl 9 rfl (sl 10 rfl (sl 70 rfl (sl 71 rfl (sl 72 rfl sn)))))))) (el 9 rfl (el 600 rfl (el 602 rfl (el 1016 rfl en)))) ?_
      have hkd := @kdL_len D L ts n ((ll j).getD i []) e
      have hkl := @kl_len (cq_ D L ts n ((ll j).getD i [])) m
      refine tri_seq ?_
      refine tri_reg mixed hcx ?_ _ _
      refine clt rfl rfl rfl ?_
      refine ⟨by kernel_rfl, ?_⟩
      refine nx (sl 1 rfl (sl 2 rfl (sl 8 rfl (sl 9 rfl (sl 10 rfl (sl 70 rfl (sl 71 rfl (sl 72 rfl (sl 73 rfl sn))))))))) (el 9 rfl (el 600 rfl (el 602 rfl (el 1016 rfl en)))) ?_
      refine tri_seq ?_
      refine tri_if rfl (fun hc3 => ?_) (fun hc3 => ?_)
      · have hc4 : e < m := by omega
        have hke : (kl (cq_ D L ts n ((ll j).getD i [])) m).getD e (cZ k).dflt = nth (cq_ D L ts n ((ll j).getD i [])) e := kl_at hc4
        refine tri_skip ?_
        refine nx (sl 1 rfl (sl 2 rfl (sl 8 rfl (sl 9 rfl (sl 10 rfl (sl 70 rfl (sl 71 rfl (sl 72 rfl sn)))))))) (el 9 rfl (el 600 rfl (el 602 rfl (el 1016 rfl en)))) ?_
        refine tri_seq ?_
        refine tri_block ?_
        refine tri_seq ?_
        refine tri_reg mixed hcx ?_ _ _
        refine ix rfl rfl slZs ⟨rfl, by omega⟩ ?_
        refine lf rfl tyZ ?_
        refine nw 2112 zeZ ?_
        refine st rfl rfl rfl tyZ rfl ?_
        refine ⟨by kernel_rfl, ?_⟩
        refine nx (sl 1 rfl (sl 2 rfl (sl 8 rfl (sl 9 rfl (sl 10 rfl (sl 16 rfl (sl 70 rfl (sl 71 rfl (sl 72 rfl sn))))))))) (el 9 rfl (el 600 rfl (el 602 rfl (el 1016 rfl (el 2112 rfl en))))) ?_
        refine tri_reg mixed hcx ?_ _ _
        refine mv rfl ?_
        refine fa rfl fJbR 0 ?_
        refine ld rfl rfl tyZs rfl ?_
        refine ld rfl rfl tyZ rfl ?_
        refine ca rfl (h := (fn_out (sp_longer (x := (kl (cq_ D L ts n ((ll j).getD i [])) m).getD e (cZ k).dflt) (k := k) (by omega) (by omega)) (.of (by rw [hke])))) (hn := ?_)
        refine bu stJb rfl ?_
        refine cae (hE := (el 600 rfl (el 602 rfl en))) rfl (h := sp_put2 (l := (ll j).take i ++ (ll j).drop (i + 1) ++ kdL D L ts n ((ll j).getD i []) e) (q := (((ll j).getD i []) ++ [nth (cq_ D L ts n ((ll j).getD i [])) e])) (by rw [List.length_append]; omega)) (hn := ?_)
        refine ⟨by kernel_rfl, ?_⟩
        refine pn_blk ?_
        refine nx (sl 1 rfl (sl 2 rfl (sl 8 rfl (sl 9 rfl (sl 10 rfl (sl 70 rfl (sl 71 rfl (sl 72 rfl sn)))))))) (el 9 rfl (el 1016 rfl (el 2112 rfl (el 600 rfl (el 603 rfl en))))) ?_
        refine tri_reg mixed hcx ?_ _ _
        refine ad (((e + 1 : Nat) : Int)) rfl rfl rfl (by omega) ?_
        refine mv rfl ?_
        refine ⟨by kernel_rfl, ?_⟩
        refine pn_sub (sl 1 rfl (sl 2 rfl (sl 8 rfl (sl 9 rfl (sl 10 rfl (sl 70 rfl (sl 71 rfl (sl 72 rfl sn)))))))) (el 9 rfl (el 600 rfl (el 603 rfl (el 1016 rfl en)))) ?_
        refine pn_renb (bl := [T.o 603]) (bl' := [T.o 602]) 600 602 603 rfl rfl ⟨.inr ⟨rfl, rfl⟩, trivial⟩ (by rw [hcx]; kernel_rfl) rfl ?_
        exact pn_back (e + 1) (by first | omega | (dsimp only; omega)) (by omega) (sl 1 rfl (sl 2 rfl (sl 8 rfl (sl 9 rfl (sl 10 rfl (sl 70 rfl (sl 71 rfl (sl 72 rfl sn)))))))) (el 9 rfl (el 600 rfl (ew 602 rfl (row_ap' (by rw [List.append_assoc, kdL_succ])) (el 1016 rfl en))))
      · refine tri_exit ?_
        repeat (first | refine pn_then ?_ | refine pn_oth (by decide) ?_)
        refine pn_ex ?_
        have hem : e = m := by omega
        refine pn_blk ?_
        refine pn_sub (sl 1 rfl (sl 2 rfl (sl 8 rfl (sl 9 rfl sn)))) (el 9 rfl (el 600 rfl (el 602 rfl en))) ?_
        refine pn_rena (bl := [T.o 602]) (bl' := [T.o 601]) 600 601 602 rfl rfl ⟨.inr ⟨rfl, rfl⟩, trivial⟩ (by rw [hcx]; kernel_rfl) rfl rfl ?_
        exact pn_back (j + 1) (by first | omega | (dsimp only; omega)) (by omega) (sl 1 rfl (sl 2 rfl (sl 8 rfl (sl 9 rfl sn)))) (ew 9 rfl (.of (by rw [hdn, if_pos hz])) (el 600 rfl (ew 601 rfl (ap_eq (by rw [hln, hem])) en)))
    · refine tri_reg mixed hcx ?_ _ _
      refine fa rfl fJbR 0 ?_
      refine ld rfl rfl tyZs rfl ?_
      refine ln slZs rfl ?_
      refine cgt rfl rfl (decide_eq_true (by omega)) ?_
      refine ⟨by kernel_rfl, ?_⟩
      refine nx (sl 1 rfl (sl 2 rfl (sl 8 rfl (sl 9 rfl (sl 10 rfl (sl 51 rfl sn)))))) (el 9 rfl (el 600 rfl (el 602 rfl (el 1016 rfl en)))) ?_
      refine tri_true rfl rfl ?_
      refine tri_reg mixed hcx ?_ _ _
      refine mv rfl ?_
      refine fa rfl fJbR 0 ?_
      refine ld rfl rfl tyZs rfl ?_
      refine bs (c := cL (cZ k)) (xs := [((ll j).getD i [])]) slZss rfl ⟨.refl _, trivial⟩ ?_
      refine ap 1314 rfl rfl rfl slZss (by simp only [List.length_cons, List.length_nil]; omega) (by decide) ?_
      refine asg rfl ?_
      refine ⟨by kernel_rfl, ?_⟩
      refine nx (sl 1 rfl (sl 2 rfl (sl 8 rfl (sl 9 rfl (sl 10 rfl sn))))) (el 600 rfl (el 602 rfl (el 1016 rfl (el 1314 rfl en)))) ?_
      refine tri_seq ?_
      refine tri_reg mixed hcx ?_ _ _
      refine lf rfl tyTr ?_
      refine fa rfl fJbR 0 ?_
      refine ld rfl rfl tyZs rfl ?_
      refine ca rfl (h := (fn_out (t_Kids (m := m) (mo := 65536) (s := ((ll j).getD i [])) h hb ha (by omega) hcut.kd.zl hcut.kd.w hcut.kd.n (by decide) hcut.wi) (tup_le (l' := [T.l (cZ k) (kl (cq_ D L ts n ((ll j).getD i [])) m), T.c (.bool true), T.c (.int .i64 0)]) ⟨.of (by rw [Nat.min_eq_left (by omega)]; rfl), ci_b (decide_eq_true (by omega)), .refl _, trivial⟩))) (hn := ?_)
      refine mv rfl ?_
      refine ex rfl rfl ?_
      refine ex rfl rfl ?_
      refine ex rfl rfl ?_
      refine asg rfl ?_
      refine asg rfl ?_
      refine asg rfl ?_
      refine ⟨by kernel_rfl, ?_⟩
      refine nx (sl 1 rfl (sl 2 rfl (sl 8 rfl (sl 9 rfl (sl 10 rfl (sl 12 rfl (sl 13 rfl (sl 14 rfl sn)))))))) (el 600 rfl (el 602 rfl (el 1016 rfl (el 1314 rfl en)))) ?_
      refine tri_seq ?_
      refine tri_seq ?_
      refine tri_reg mixed hcx ?_ _ _
      refine mv rfl ?_
      refine cne rfl rfl (decide_eq_false (by omega)) ?_
      refine ⟨by kernel_rfl, ?_⟩
      refine nx (sl 1 rfl (sl 2 rfl (sl 8 rfl (sl 9 rfl (sl 10 rfl (sl 12 rfl (sl 13 rfl (sl 14 rfl (sl 66 rfl sn))))))))) (el 600 rfl (el 602 rfl (el 1016 rfl (el 1314 rfl en)))) ?_
      refine tri_false rfl rfl ?_
      refine tri_skip ?_
      refine nx (sl 1 rfl (sl 2 rfl (sl 8 rfl (sl 9 rfl (sl 10 rfl (sl 12 rfl (sl 13 rfl sn))))))) (el 600 rfl (el 602 rfl (el 1016 rfl (el 1314 rfl en)))) ?_
      refine tri_seq ?_
      refine tri_seq ?_
      refine tri_reg mixed hcx ?_ _ _
      refine mv rfl ?_
      refine nt rfl _ rfl ?_
      refine ⟨by kernel_rfl, ?_⟩
      refine nx (sl 1 rfl (sl 2 rfl (sl 8 rfl (sl 9 rfl (sl 10 rfl (sl 12 rfl (sl 69 rfl sn))))))) (el 600 rfl (el 602 rfl (el 1016 rfl (el 1314 rfl en)))) ?_
      refine tri_false rfl rfl ?_
      refine tri_skip ?_
      refine nx (sl 1 rfl (sl 2 rfl (sl 8 rfl (sl 9 rfl (sl 10 rfl (sl 12 rfl sn)))))) (el 600 rfl (el 602 rfl (el 1016 rfl (el 1314 rfl en)))) ?_
      refine tri_seq ?_
      refine tri_reg mixed hcx ?_ _ _
      refine mv rfl ?_
      refine ln slZs rfl ?_
      refine mv rfl ?_
      refine ⟨by kernel_rfl, ?_⟩
      refine nx (sl 1 rfl (sl 2 rfl (sl 8 rfl (sl 9 rfl (sl 10 rfl (sl 70 rfl (sl 71 rfl (sl 72 rfl sn)))))))) (el 600 rfl (el 602 rfl (el 1016 rfl (el 1314 rfl en)))) ?_
      refine tri_block ?_
      refine tri_loop (ι := Nat) (fun e => [(1, T.c (.int .i64 (many : Int))), (2, T.fp (T.Tr D L ts a b k)), (8, T.o 1314), (9, T.p 600 0), (10, T.p 1016 0), (70, T.l (cZ k) (kl (cq_ D L ts n ((ll j).getD i [])) m)), (71, T.c (.int .i64 ((kl (cq_ D L ts n ((ll j).getD i [])) m).length : Int))), (72, T.c (.int .i64 (e : Int)))]) (fun e => [(1314, some (Ent.row (cL (cZ k)) 31 (dd j ++ [((ll j).getD i [])]))), (600, some (Ent.box 68 [T.o 602])), (602, some (Ent.ap (cJ k) 49 ((ll j).take i ++ (ll j).drop (i + 1) ++ kdL D L ts n ((ll j).getD i []) e))), (1016, some (Ent.box 49 [T.l (cZ k) ((ll j).getD i [])]))]) (fun e => m - e) (fun e => (e ≤ m)) 0 (Nat.zero_le _) (sl 1 rfl (sl 2 rfl (sl 8 rfl (sl 9 rfl (sl 10 rfl (sl 70 rfl (sl 71 rfl (sl 72 rfl sn)))))))) (el 1314 rfl (el 600 rfl (ew 602 rfl (ap_eq (List.append_nil _).symm) (el 1016 rfl en)))) ?_
      rintro e he
      refine tri_sub (sl 1 rfl (sl 2 rfl (sl 8 rfl (sl 9 rfl (sl 10 rfl (sl 70 rfl (sl 71 rfl (sl 72 rfl sn)))))))) (el 1314 rfl (el 600 rfl (el 602 rfl (el 1016 rfl en)))) ?_
      have hkd := @kdL_len D L ts n ((ll j).getD i []) e
      have hkl := @kl_len (cq_ D L ts n ((ll j).getD i [])) m
      refine tri_seq ?_
      refine tri_reg mixed hcx ?_ _ _
      refine clt rfl rfl rfl ?_
      refine ⟨by kernel_rfl, ?_⟩
      refine nx (sl 1 rfl (sl 2 rfl (sl 8 rfl (sl 9 rfl (sl 10 rfl (sl 70 rfl (sl 71 rfl (sl 72 rfl (sl 73 rfl sn))))))))) (el 1314 rfl (el 600 rfl (el 602 rfl (el 1016 rfl en)))) ?_
      refine tri_seq ?_
      refine tri_if rfl (fun hc3 => ?_) (fun hc3 => ?_)
      · have hc4 : e < m := by omega
        have hke : (kl (cq_ D L ts n ((ll j).getD i [])) m).getD e (cZ k).dflt = nth (cq_ D L ts n ((ll j).getD i [])) e := kl_at hc4
        refine tri_skip ?_
        refine nx (sl 1 rfl (sl 2 rfl (sl 8 rfl (sl 9 rfl (sl 10 rfl (sl 70 rfl (sl 71 rfl (sl 72 rfl sn)))))))) (el 1314 rfl (el 600 rfl (el 602 rfl (el 1016 rfl en)))) ?_
        refine tri_seq ?_
        refine tri_block ?_
        refine tri_seq ?_
        refine tri_reg mixed hcx ?_ _ _
        refine ix rfl rfl slZs ⟨rfl, by omega⟩ ?_
        refine lf rfl tyZ ?_
        refine nw 2112 zeZ ?_
        refine st rfl rfl rfl tyZ rfl ?_
        refine ⟨by kernel_rfl, ?_⟩
        refine nx (sl 1 rfl (sl 2 rfl (sl 8 rfl (sl 9 rfl (sl 10 rfl (sl 16 rfl (sl 70 rfl (sl 71 rfl (sl 72 rfl sn))))))))) (el 1314 rfl (el 600 rfl (el 602 rfl (el 1016 rfl (el 2112 rfl en))))) ?_
        refine tri_reg mixed hcx ?_ _ _
        refine mv rfl ?_
        refine fa rfl fJbR 0 ?_
        refine ld rfl rfl tyZs rfl ?_
        refine ld rfl rfl tyZ rfl ?_
        refine ca rfl (h := (fn_out (sp_longer (x := (kl (cq_ D L ts n ((ll j).getD i [])) m).getD e (cZ k).dflt) (k := k) (by omega) (by omega)) (.of (by rw [hke])))) (hn := ?_)
        refine bu stJb rfl ?_
        refine cae (hE := (el 600 rfl (el 602 rfl en))) rfl (h := sp_put2 (l := (ll j).take i ++ (ll j).drop (i + 1) ++ kdL D L ts n ((ll j).getD i []) e) (q := (((ll j).getD i []) ++ [nth (cq_ D L ts n ((ll j).getD i [])) e])) (by rw [List.length_append]; omega)) (hn := ?_)
        refine ⟨by kernel_rfl, ?_⟩
        refine pn_blk ?_
        refine nx (sl 1 rfl (sl 2 rfl (sl 8 rfl (sl 9 rfl (sl 10 rfl (sl 70 rfl (sl 71 rfl (sl 72 rfl sn)))))))) (el 1314 rfl (el 1016 rfl (el 2112 rfl (el 600 rfl (el 603 rfl en))))) ?_
        refine tri_reg mixed hcx ?_ _ _
        refine ad (((e + 1 : Nat) : Int)) rfl rfl rfl (by omega) ?_
        refine mv rfl ?_
        refine ⟨by kernel_rfl, ?_⟩
        refine pn_sub (sl 1 rfl (sl 2 rfl (sl 8 rfl (sl 9 rfl (sl 10 rfl (sl 70 rfl (sl 71 rfl (sl 72 rfl sn)))))))) (el 1314 rfl (el 600 rfl (el 603 rfl (el 1016 rfl en)))) ?_
        refine pn_renb (bl := [T.o 603]) (bl' := [T.o 602]) 600 602 603 rfl rfl ⟨.inr ⟨rfl, rfl⟩, trivial⟩ (by rw [hcx]; kernel_rfl) rfl ?_
        exact pn_back (e + 1) (by first | omega | (dsimp only; omega)) (by omega) (sl 1 rfl (sl 2 rfl (sl 8 rfl (sl 9 rfl (sl 10 rfl (sl 70 rfl (sl 71 rfl (sl 72 rfl sn)))))))) (el 1314 rfl (el 600 rfl (ew 602 rfl (row_ap' (by rw [List.append_assoc, kdL_succ])) (el 1016 rfl en))))
      · refine tri_exit ?_
        repeat (first | refine pn_then ?_ | refine pn_oth (by decide) ?_)
        refine pn_ex ?_
        have hem : e = m := by omega
        refine pn_blk ?_
        refine pn_sub (sl 1 rfl (sl 2 rfl (sl 8 rfl (sl 9 rfl sn)))) (el 1314 rfl (el 600 rfl (el 602 rfl (el 1016 rfl en)))) ?_
        refine pn_ren 8 9 1314 rfl rfl (by rw [hcx]; kernel_rfl) ?_
        refine pn_sub (sl 1 rfl (sl 2 rfl (sl 8 rfl (sl 9 rfl sn)))) (el 9 rfl (el 600 rfl (el 602 rfl en))) ?_
        refine pn_rena (bl := [T.o 602]) (bl' := [T.o 601]) 600 601 602 rfl rfl ⟨.inr ⟨rfl, rfl⟩, trivial⟩ (by rw [hcx]; kernel_rfl) rfl rfl ?_
        exact pn_back (j + 1) (by first | omega | (dsimp only; omega)) (by omega) (sl 1 rfl (sl 2 rfl (sl 8 rfl (sl 9 rfl sn)))) (ew 9 rfl (.of (by rw [hdn, if_neg (by omega)])) (el 600 rfl (ew 601 rfl (ap_eq (by rw [hln, hem])) en)))
end Go.Proofs.Ytekghdfbhbhigaa.V
/- A tree cut into jobs: the document's Jobs. -/
set_option linter.unusedVariables false
set_option linter.unusedSimpArgs false
set_option maxRecDepth 100000
namespace Go.Proofs.Ytekghdfbhbhigaa.V
open Go.RowKit Mt Nml
end Go.Proofs.Ytekghdfbhbhigaa.V
/- Search trees: what a node begins with is a node. -/
set_option linter.unusedVariables false
set_option linter.unusedSimpArgs false
set_option maxRecDepth 100000
namespace Go.Proofs.Ytekghdfbhbhigaa.V
open Go.RowKit Mt Nml
theorem take_atN {l : List (List Int)} {i m : Nat} (h : i < (l.take m).length) : (l.take m).getD i [] = l.getD i [] := by
  rw [List.length_take] at h
  simp only [List.getD_eq_getElem?_getD, List.getElem?_take]
  rw [if_pos (by omega)]
theorem getD_mem' {l : List (List Int)} {i : Nat} (h : i < l.length) : l.getD i [] ∈ l := by
  rw [List.getD_eq_getElem?_getD, List.getElem?_eq_getElem h]
  exact List.getElem_mem h
/-- What is so of each of the first nodes. -/
theorem Bel.first {D : List Int} {L : List (List Int)} {ts : List (Int × Int)} {n k mo : Nat} {R : Rat} {ns : List (List Int)} (h : Bel D L ts n k R [] 0 ns) {i : Nat} (hi : i < (ns.take mo).length) : Nd D L ts n k R [] ((ns.take mo).getD i []) ∧ Lnk (if i = 0 then [] else (ns.take mo).getD (i - 1) []) ((ns.take mo).getD i []) := by
  have hz : ∀ j, Nml.zl (([] : List Int).getD j 0) ≤ k := fun j => by rw [show (([] : List Int)).getD j 0 = 0 from by simp, zl_zero]; exact Nat.zero_le _
  have hl : i < ns.length := by rw [List.length_take] at hi; omega
  have h1 := h.mem rfl hz _ (getD_mem' hl)
  have h2 := chn_at (h.chn rfl hz) i hl
  rw [take_atN hi]
  refine ⟨h1, ?_⟩
  split
  · rename_i h0
    subst h0
    exact h2
  · rename_i h0
    rw [take_atN (by omega)]
    rwa [if_neg h0] at h2
end Go.Proofs.Ytekghdfbhbhigaa.V
/- A tree cut into jobs: the law. -/
set_option linter.unusedVariables false
set_option linter.unusedSimpArgs false
set_option maxRecDepth 100000
namespace Go.Proofs.Ytekghdfbhbhigaa.V
open Go.RowKit Mt Nml
theorem jr_out {k : Nat} {d l : List (List Int)} : (JRes k (some (d, l))).le (T.tup [T.l (cL (cZ k)) d, T.l (cJ k) l, T.c (.int .i64 0)]) := fun _ _ _ h => h
theorem jr_out0 {k : Nat} : (JRes k none).le (T.tup [T.c (.slice none 0 0), T.c (.slice none 0 0), T.c (.int .i64 2)]) := fun _ _ _ h => h
/-- How large lists of jobs get. -/
theorem trace_b {D : List Int} {L : List (List Int)} {ts : List (Int × Int)} {n k : Nat} {R : Rat} {many N : Nat} {dd ll : Nat → List (List Int)} (hmany : many ≤ 4096) (h0 : dd 0 = []) (h1 : ll 0 = [[]]) (hst : ∀ j, j < N → Stp D L ts n k R many (dd j) (ll j) (dd (j + 1)) (ll (j + 1))) : ∀ j, j ≤ N → ((ll j).length ≤ 100000 ∧ ∀ q ∈ ll j, q.length ≤ n) ∧ (dd j).length ≤ 100001 ∧ ∀ q ∈ dd j, q.length ≤ n
  | 0, _ => by
    rw [h0, h1]
    exact ⟨⟨by decide, fun q hq => by rw [List.mem_singleton.1 hq]; exact Nat.zero_le _⟩, by decide, fun q hq => by cases hq⟩
  | j + 1, hj => by
    obtain ⟨⟨a1, a2⟩, a3, a4⟩ := trace_b hmany h0 h1 hst j (by omega)
    obtain ⟨i, m, hc, hm, hd, hl⟩ := hst j (by omega)
    have hmem : (ll j).getD i [] ∈ ll j := getD_mem' hc.hi
    rw [hd, hl]
    refine ⟨⟨?_, fun q hq => ?_⟩, ?_, fun q hq => ?_⟩
    · have := hc.lt; have := hc.hi
      rw [List.length_append, List.length_append, List.length_take, List.length_drop, kdL_len]
      omega
    · rcases List.mem_append.1 hq with hq | hq
      · rcases List.mem_append.1 hq with hq | hq
        · exact a2 q (List.mem_of_mem_take hq)
        · exact a2 q (List.mem_of_mem_drop hq)
      · unfold kdL at hq
        obtain ⟨e, _, rfl⟩ := List.mem_map.1 hq
        have := hc.ho
        rw [List.length_append]
        show _ + 1 ≤ n
        omega
    · have := hc.dl
      split
      · omega
      · simp; omega
    · split at hq
      · exact a4 q hq
      · rcases List.mem_append.1 hq with hq | hq
        · exact a4 q hq
        · rw [List.mem_singleton.1 hq]; have := hc.ho; omega
theorem len_at {l : List (List Int)} {n i : Nat} (h : ∀ q ∈ l, q.length ≤ n) (hn : n ≤ 1048576) : i < l.length → (l.getD i []).length ≤ 1048576 := fun hi => Nat.le_trans (h _ (getD_mem' hi)) hn

theorem l13_n {z : Int} (h0 : -9223372036854775808 ≤ z) (h1 : z < 9223372036854775808) : Fn Try.prog 52 [T.c (.int .i64 z)] [] [] [] (T.Z z 2) := by
  refine fn_of Try.func52 rfl (by show 1 ≤ 5; decide) fun cx hcx => ?_
  refine tri_sub (sl 0 rfl sn) en ?_
  refine tri_seq ?_
  refine tri_reg mixed hcx ?_ _ _
  refine nw 10 zeZ ?_
  refine ⟨by kernel_rfl, ?_⟩
  refine nx (sl 0 rfl (sl 2 rfl sn)) (el 10 rfl en) ?_
  refine tri_seq ?_
  refine tri_reg mixed hcx ?_ _ _
  refine mv rfl ?_
  refine ca rfl (h := r02_Of h0 h1) (hn := ?_)
  refine st rfl rfl rfl tyZ rfl ?_
  refine ⟨by kernel_rfl, ?_⟩
  refine nx (sl 2 rfl sn) (el 10 rfl en) ?_
  refine tri_ret ?_
  repeat (first | refine pn_thenr ?_ | refine pn_blkr ?_)
  exact ret1 hcx rfl (rv_cell (c' := cx) (n := 0) rfl rfl tyZ rfl) (.refl _) en

theorem l13_small  : Fn Try.prog 23 [] [] [] [] (T.Tr [1, 1, 1] [[], [0]] [] 1 1 2) := by
  refine fn_of Try.func23 rfl (by show 0 ≤ 14; decide) fun cx hcx => ?_
  refine tri_sub sn en ?_
  refine tri_seq ?_
  refine tri_reg mixed hcx ?_ _ _
  refine nw 10 zeTr ?_
  refine ⟨by kernel_rfl, ?_⟩
  refine nx (sl 0 rfl sn) (el 10 rfl en) ?_
  refine tri_seq ?_
  refine tri_reg mixed hcx ?_ _ _
  refine ca rfl (h := l13_n (by decide) (by decide)) (hn := ?_)
  refine ca rfl (h := l13_n (by decide) (by decide)) (hn := ?_)
  refine ca rfl (h := l13_n (by decide) (by decide)) (hn := ?_)
  refine bs (c := cZ 2) (xs := [1, 1, 1]) slZs rfl ⟨.refl _, .refl _, .refl _, trivial⟩ ?_
  refine bs0 (cZ 2) slZs ?_
  refine ca rfl (h := l13_n (by decide) (by decide)) (hn := ?_)
  refine bs (c := cZ 2) (xs := [0]) slZs rfl ⟨.refl _, trivial⟩ ?_
  refine bs (c := cL (cZ 2)) (xs := [[], [0]]) slZss rfl ⟨.refl _, .refl _, trivial⟩ ?_
  refine bu stG rfl ?_
  refine ca rfl (h := l13_n (by decide) (by decide)) (hn := ?_)
  refine ca rfl (h := l13_n (by decide) (by decide)) (hn := ?_)
  refine bu stQ rfl ?_
  refine bu stTr rfl ?_
  refine sts rfl rfl rfl tyTr rfl ?_
  refine ⟨by kernel_rfl, ?_⟩
  refine nx (sl 0 rfl sn) (el 10 rfl en) ?_
  refine tri_ret ?_
  repeat (first | refine pn_thenr ?_ | refine pn_blkr ?_)
  exact ret1 hcx rfl (rv_cell (c' := cx) (n := 0) rfl rfl tyTr rfl) (tr_flat.trans (st_le ⟨IsL.le (c := cZi 2), IsL.le (c := cL (cZi 2)), nil_l _, z_zi _ _, z_zi _ _, trivial⟩)) en

theorem chk_kd {s : List Int} {m : Nat} (h : chk s s.length m = true) : Kd D0 L0 [] 2 2 (((1 : Int) : Rat) / ((1 : Int) : Rat)) s m := by
  have hj : ∀ j, j ≤ m → (-9 ≤ nth (ctT D0 L0 [] s (2 - 1) (2 - 1 - s.length) s.length) j ∧ nth (ctT D0 L0 [] s (2 - 1) (2 - 1 - s.length) s.length) j ≤ 9) ∧ (ptT D0 L0 [] (s ++ [nth (ctT D0 L0 [] s (2 - 1) (2 - 1 - s.length) s.length) j]) (2 - 1) (s.length + 1) ≤ ((1 : Int) : Rat) / ((1 : Int) : Rat) ↔ j < m) := fun j hj => by
    have := List.all_eq_true.1 h j (by simp; omega)
    simp only [Bool.and_eq_true, decide_eq_true_eq, beq_iff_eq] at this
    obtain ⟨⟨a, b⟩, c⟩ := this
    exact ⟨⟨a, b⟩, decide_eq_decide.1 c⟩
  exact ⟨fun j h => zl_of (by have := (hj j h).1; show -9223372036854775808 ≤ nth (ctT D0 L0 [] s (2 - 1) (2 - 1 - s.length) s.length) j; omega) (by have := (hj j h).1; show nth (ctT D0 L0 [] s (2 - 1) (2 - 1 - s.length) s.length) j < _; omega), fun j h => (hj j (by omega)).2.2 h, fun h => absurd ((hj m (Nat.le_refl _)).2.1 h) (Nat.lt_irrefl _)⟩
def sdd : Nat → List (List Int)
  | 0 => []
  | 1 => []
  | _ => [[0]]
def sll : Nat → List (List Int)
  | 0 => [[]]
  | 1 => [[0], [1], [-1]]
  | _ => [[1], [-1], [0, 0], [0, 1], [0, -1]]
theorem small_st : ∀ j, j < 2 → Stp D0 L0 [] 2 2 (((1 : Int) : Rat) / ((1 : Int) : Rat)) 4 (sdd j) (sll j) (sdd (j + 1)) (sll (j + 1)) := fun j hj => by
  match j, hj with
  | 0, _ => exact ⟨0, 3, ⟨by decide, by decide, by decide, fun j hj => absurd hj (Nat.not_lt_zero _), by unfold Wi; decide +kernel, chk_kd (by decide +kernel), by decide⟩, by decide, by decide +kernel, by decide +kernel⟩
  | 1, _ => exact ⟨0, 3, ⟨by decide, by decide, by decide, fun j hj => absurd hj (Nat.not_lt_zero _), by unfold Wi; decide +kernel, chk_kd (by decide +kernel), by decide⟩, by decide, by decide +kernel, by decide +kernel⟩

theorem sp_Jobs4 : Fn Try.prog 10 [T.Tr D0 L0 [] 1 1 2, T.c (.int .i64 4)] [] [] [] (T.tup [T.l (cL (cZ 2)) [[0]], T.l (cJ 2) [[1], [-1], [0, 0], [0, 1], [0, -1]], T.c (.int .i64 0)]) :=
  fn_out (sp_Jobs small_T (a := 1) (b := 1) (by decide) (by decide) (many := 4) (N := 2) (dd := sdd) (ll := sll) (by decide) (by decide) rfl rfl small_st (.inl ⟨by decide, rfl⟩)) jr_out

theorem l13_awake  : Fn Try.prog 9 [] [] [] [] (T.c (.bool true)) := by
  refine fn_of Try.func9 rfl (by show 0 ≤ 30; decide) fun cx hcx => ?_
  refine tri_sub sn en ?_
  refine tri_seq ?_
  refine tri_reg mixed hcx ?_ _ _
  refine asg rfl ?_
  refine ⟨by kernel_rfl, ?_⟩
  refine nx sn en ?_
  refine tri_seq ?_
  refine tri_reg mixed hcx ?_ _ _
  refine ca rfl (h := l13_small) (hn := ?_)
  refine ca rfl (h := sp_Jobs4) (hn := ?_)
  refine mv rfl ?_
  refine ex rfl rfl ?_
  refine ex rfl rfl ?_
  refine ex rfl rfl ?_
  refine asg rfl ?_
  refine asg rfl ?_
  refine asg rfl ?_
  refine ⟨by kernel_rfl, ?_⟩
  refine nx (sl 1 rfl (sl 2 rfl (sl 3 rfl sn))) en ?_
  refine tri_seq ?_
  refine tri_reg mixed hcx ?_ _ _
  refine mv rfl ?_
  refine ceq rfl rfl rfl ?_
  refine mv rfl ?_
  refine mv rfl ?_ (hg := gd1)
  refine ln slZss rfl ?_ (hg := gd1)
  refine ceq rfl rfl rfl ?_ (hg := gd1)
  refine pk rfl rfl ?_
  refine mv rfl ?_
  refine mv rfl ?_ (hg := gd1)
  refine ln slJbs rfl ?_ (hg := gd1)
  refine ceq rfl rfl rfl ?_ (hg := gd1)
  refine pk rfl rfl ?_
  refine mv rfl ?_
  refine mv rfl ?_ (hg := gd1)
  refine ix rfl rfl slJbs ⟨(rfl : _ = ((4 : Nat) : Int)), by decide⟩ ?_ (hg := gd1)
  refine ff rfl fJbR rfl ?_ (hg := gd1)
  refine lf rfl tyZs ?_ (hg := gd1)
  refine ln slZs rfl ?_ (hg := gd1)
  refine ceq rfl rfl rfl ?_ (hg := gd1)
  refine pk rfl rfl ?_
  refine asg rfl ?_
  refine ⟨by kernel_rfl, ?_⟩
  refine nx (sl 0 rfl sn) en ?_
  refine tri_ret ?_
  repeat (first | refine pn_thenr ?_ | refine pn_blkr ?_)
  exact ret1 hcx rfl (rv_tmp rfl) (.refl _) en

theorem sp_Jobs_e {D : List Int} {L : List (List Int)} {ts : List (Int × Int)} {a b many r : Int} {k : Nat} (hr : r ≠ 0) (hv : Fn Try.prog 24 [T.Tr D L ts a b k] [] [] [] (T.c (.int .i64 r))) : Fn Try.prog 10 [T.Tr D L ts a b k, T.c (.int .i64 many)] [] [] [] (T.tup [T.c (.slice none 0 0), T.c (.slice none 0 0), T.c (.int .i64 r)]) := by
  refine fn_of Try.func10 rfl (by show 2 ≤ 89; decide) fun cx hcx => ?_
  refine tri_sub (sl 0 rfl (sl 1 rfl sn)) en ?_
  refine tri_seq ?_
  refine tri_reg mixed hcx ?_ _ _
  refine bxs 10 rfl ?_
  refine asg rfl ?_
  refine asg rfl ?_
  refine asg rfl ?_
  refine ⟨by kernel_rfl, ?_⟩
  refine nx (sl 1 rfl (sl 2 rfl sn)) (el 10 rfl en) ?_
  refine tri_seq ?_
  refine tri_seq ?_
  refine tri_reg mixed hcx ?_ _ _
  refine ld rfl rfl tyTr rfl ?_
  refine ca rfl (h := hv) (hn := ?_)
  refine asg rfl ?_
  refine ⟨by kernel_rfl, ?_⟩
  refine nx (sl 1 rfl (sl 2 rfl (sl 7 rfl sn))) (el 10 rfl en) ?_
  refine tri_seq ?_
  refine tri_reg mixed hcx ?_ _ _
  refine mv rfl ?_
  refine cne rfl rfl (decide_eq_true hr) ?_
  refine ⟨by kernel_rfl, ?_⟩
  refine nx (sl 1 rfl (sl 2 rfl (sl 7 rfl (sl 20 rfl sn)))) (el 10 rfl en) ?_
  refine tri_true rfl rfl ?_
  refine tri_seq ?_
  refine tri_reg mixed hcx ?_ _ _
  refine mv rfl ?_
  refine asg rfl ?_
  refine asg rfl ?_
  refine asg rfl ?_
  refine ⟨by kernel_rfl, ?_⟩
  refine nx (sl 4 rfl (sl 5 rfl (sl 6 rfl sn))) (el 10 rfl en) ?_
  refine tri_ret ?_
  repeat (first | refine pn_thenr ?_ | refine pn_blkr ?_)
  exact ret3 hcx rfl (rv_tmp rfl) (rv_tmp rfl) (rv_tmp rfl) (.refl _) en

end Go.Proofs.Ytekghdfbhbhigaa.V
/- A search tree cut into jobs: no root begins another one. -/
set_option linter.unusedVariables false
set_option maxRecDepth 100000
namespace Go.Proofs.Ytekghdfbhbhigaa.V
open Go.RowKit Mt Nml
/-- b begins with a. -/
def Bgn (a b : List Int) : Prop := a.length ≤ b.length ∧ ∀ j, j < a.length → a.getD j 0 = b.getD j 0
theorem nth_inj {c : Rat} {i j : Nat} (h : nth c i = nth c j) : i = j := by
  unfold nth at h
  simp only [eq_iff_iff] at h
  by_cases h0 : ((nea c : Int) : Rat) ≤ c
  · simp only [h0, iff_true] at h
    split at h <;> split at h <;> omega
  · simp only [h0, iff_false] at h
    split at h <;> split at h <;> omega
theorem Bgn.cut {q r : List Int} {x : Int} (h : Bgn (q ++ [x]) r) : Bgn q r := by
  obtain ⟨h1, h2⟩ := h
  simp only [List.length_append, List.length_cons, List.length_nil] at h1 h2
  refine ⟨by omega, fun j hj => ?_⟩
  rw [← h2 j (by omega), getD_snoc', if_neg (by omega)]
theorem Bgn.snoc {q r : List Int} {x : Int} (h : Bgn r (q ++ [x])) : Bgn r q ∨ Bgn q r := by
  obtain ⟨h1, h2⟩ := h
  simp only [List.length_append, List.length_cons, List.length_nil] at h1
  rcases Nat.lt_or_ge q.length r.length with hl | hl
  · exact .inr ⟨by omega, fun j hj => by rw [h2 j (by omega), getD_snoc', if_neg (by omega)]⟩
  · exact .inl ⟨hl, fun j hj => by rw [h2 j hj, getD_snoc', if_neg (by omega)]⟩
/-- No job begins another one, nor one that is done. -/
def Apt (d l : List (List Int)) : Prop := (∀ i j, i < l.length → j < l.length → i ≠ j → ¬ Bgn (l.getD i []) (l.getD j [])) ∧ ∀ i j, i < l.length → j < d.length → ¬ Bgn (l.getD i []) (d.getD j [])
/-- The same by pairs. -/
theorem apt_pw {d l : List (List Int)} : Apt d l ↔ (l.Pairwise fun a b => ¬ Bgn a b ∧ ¬ Bgn b a) ∧ ∀ a ∈ l, ∀ b ∈ d, ¬ Bgn a b := by
  constructor
  · intro ⟨h1, h2⟩
    refine ⟨List.pairwise_iff_getElem.2 fun i j hi hj hij => ?_, fun a ha b hb => ?_⟩
    · have a1 := h1 i j hi hj (by omega)
      have a2 := h1 j i hj hi (by omega)
      simp only [List.getD_eq_getElem?_getD, List.getElem?_eq_getElem hi, List.getElem?_eq_getElem hj, Option.getD_some] at a1 a2
      exact ⟨a1, a2⟩
    · obtain ⟨i, hi, rfl⟩ := List.getElem_of_mem ha
      obtain ⟨j, hj, rfl⟩ := List.getElem_of_mem hb
      have := h2 i j hi hj
      simpa only [List.getD_eq_getElem?_getD, List.getElem?_eq_getElem hi, List.getElem?_eq_getElem hj, Option.getD_some] using this
  · intro ⟨h1, h2⟩
    have h3 := List.pairwise_iff_getElem.1 h1
    refine ⟨fun i j hi hj hij => ?_, fun i j hi hj => ?_⟩
    · simp only [List.getD_eq_getElem?_getD, List.getElem?_eq_getElem hi, List.getElem?_eq_getElem hj, Option.getD_some]
      rcases Nat.lt_or_ge i j with h | h
      · exact (h3 i j hi hj h).1
      · exact (h3 j i hj hi (by omega)).2
    · simp only [List.getD_eq_getElem?_getD, List.getElem?_eq_getElem hi, List.getElem?_eq_getElem hj, Option.getD_some]
      exact h2 _ (List.getElem_mem hi) _ (List.getElem_mem hj)
theorem kdL_pw {D : List Int} {L : List (List Int)} {ts : List (Int × Int)} {n : Nat} {q : List Int} {m : Nat} : (kdL D L ts n q m).Pairwise fun a b => ¬ Bgn a b ∧ ¬ Bgn b a := by
  unfold kdL
  rw [List.pairwise_map]
  refine List.Pairwise.imp (fun {i j} (h : i < j) => ?_) List.pairwise_lt_range
  have key : ∀ x y : Int, Bgn (q ++ [x]) (q ++ [y]) → x = y := fun x y hb => by
    have := hb.2 q.length (by simp)
    rwa [getD_snoc', if_pos rfl, getD_snoc', if_pos rfl] at this
  exact ⟨fun hb => by have := nth_inj (key _ _ hb); omega, fun hb => by have := nth_inj (key _ _ hb); omega⟩
theorem Stp.apt {D : List Int} {L : List (List Int)} {ts : List (Int × Int)} {n k : Nat} {R : Rat} {many : Nat} {d l d' l' : List (List Int)} (h : Stp D L ts n k R many d l d' l') (ha : Apt d l) : Apt d' l' := by
  obtain ⟨i, m, hc, hm, rfl, rfl⟩ := h
  rw [apt_pw] at ha ⊢
  obtain ⟨h1, h2⟩ := ha
  rw [take_drop_at hc.hi] at h1
  have h1' := List.pairwise_append.1 h1
  obtain ⟨p1, p2, p3⟩ := h1'
  obtain ⟨p4, p5⟩ := List.pairwise_cons.1 p2
  generalize hq : l.getD i [] = q at *
  -- the others beside q
  have ho : ∀ r ∈ l.take i ++ l.drop (i + 1), ¬ Bgn q r ∧ ¬ Bgn r q := fun r hr => by
    rcases List.mem_append.1 hr with hr | hr
    · have := p3 r hr q List.mem_cons_self; exact ⟨this.2, this.1⟩
    · exact p4 r hr
  have hk : ∀ r ∈ kdL D L ts n q m, ∃ x, r = q ++ [x] := fun r hr => by
    unfold kdL at hr
    obtain ⟨e, _, rfl⟩ := List.mem_map.1 hr
    exact ⟨_, rfl⟩
  have hml : ∀ r ∈ l.take i ++ l.drop (i + 1), r ∈ l := fun r hr => by
    rcases List.mem_append.1 hr with hr | hr
    · exact List.mem_of_mem_take hr
    · exact List.mem_of_mem_drop hr
  have hql : q ∈ l := by rw [← hq, List.getD_eq_getElem?_getD, List.getElem?_eq_getElem hc.hi]; exact List.getElem_mem hc.hi
  refine ⟨List.pairwise_append.2 ⟨List.pairwise_append.2 ⟨p1, p5, fun a ha b hb => p3 a ha b (List.mem_cons_of_mem _ hb)⟩, kdL_pw, fun a ha b hb => ?_⟩, fun a ha b hb => ?_⟩
  · obtain ⟨x, rfl⟩ := hk b hb
    obtain ⟨o1, o2⟩ := ho a ha
    refine ⟨fun hb => ?_, fun hb => o1 hb.cut⟩
    rcases hb.snoc with h | h
    · exact o2 h
    · exact o1 h
  · have hb' : b ∈ d ∨ (b = q ∧ q.length ≠ 0) := by
      split at hb
      · exact .inl hb
      · rename_i h0
        rcases List.mem_append.1 hb with hb | hb
        · exact .inl hb
        · exact .inr ⟨List.mem_singleton.1 hb, h0⟩
    rcases List.mem_append.1 ha with ha2 | ha2
    · rcases hb' with hb | ⟨hbq, _⟩
      · exact h2 a (hml a ha2) b hb
      · rw [hbq]; exact (ho a ha2).2
    · obtain ⟨x, hx⟩ := hk a ha2
      rcases hb' with hb | ⟨hbq, _⟩
      · rw [hx]; exact fun h => h2 q hql b hb h.cut
      · rw [hx, hbq]
        intro h
        have h9 := h.1
        rw [List.length_append] at h9
        simp only [List.length_cons, List.length_nil] at h9
        omega
theorem trace_apt {D : List Int} {L : List (List Int)} {ts : List (Int × Int)} {n k : Nat} {R : Rat} {many N : Nat} {dd ll : Nat → List (List Int)} (h0 : dd 0 = []) (h1 : ll 0 = [[]]) (hst : ∀ j, j < N → Stp D L ts n k R many (dd j) (ll j) (dd (j + 1)) (ll (j + 1))) : ∀ j, j ≤ N → Apt (dd j) (ll j)
  | 0, _ => by
    rw [h0, h1]
    exact ⟨fun i j hi hj hij => by simp at hi hj; omega, fun i j _ hj => absurd hj (Nat.not_lt_zero _)⟩
  | j + 1, hj => (hst j (by omega)).apt (trace_apt h0 h1 hst j (by omega))
end Go.Proofs.Ytekghdfbhbhigaa.V
/- A tree cut into jobs: no root begins another one. -/
set_option linter.unusedVariables false
set_option linter.unusedSimpArgs false
set_option maxRecDepth 100000
namespace Go.Proofs.Ytekghdfbhbhigaa.V
open Go.RowKit Mt Nml
theorem lt3 (i a b : Nat) : (i < a ∧ i < b) ∨ (i < a ∧ b ≤ i) ∨ a ≤ i := by omega

theorem cvU16I : Cv Try.prog 43 3 .i64 := ⟨by kernel_rfl, by kernel_rfl⟩

theorem r13_Bg1 {p q : List Int} {k : Nat} (hp : p.length ≤ 1048576) (hq : q.length ≤ 1048576) (hk : k ≤ 1099511627776) (h : q.length < p.length) : Fn Try.prog 11 [T.l (cZ k) p, T.l (cZ k) q] [] [] [] (T.c (.bool false)) := by
  refine fn_of Try.func11 rfl (by show 2 ≤ 27; decide) fun cx hcx => ?_
  refine tri_sub (sl 0 rfl (sl 1 rfl sn)) en ?_
  refine tri_seq ?_
  refine tri_reg mixed hcx ?_ _ _
  refine asg rfl ?_
  refine ⟨by kernel_rfl, ?_⟩
  refine nx (sl 0 rfl (sl 1 rfl sn)) en ?_
  refine tri_seq ?_
  refine tri_seq ?_
  refine tri_reg mixed hcx ?_ _ _
  refine mv rfl ?_
  refine ln slZs rfl ?_
  refine mv rfl ?_
  refine ln slZs rfl ?_
  refine cgt rfl rfl (decide_eq_true (by omega)) ?_
  refine ⟨by kernel_rfl, ?_⟩
  refine nx (sl 0 rfl (sl 1 rfl (sl 10 rfl sn))) en ?_
  refine tri_true rfl rfl ?_
  refine tri_seq ?_
  refine tri_reg mixed hcx ?_ _ _
  refine asg rfl ?_
  refine ⟨by kernel_rfl, ?_⟩
  refine nx (sl 4 rfl sn) en ?_
  refine tri_ret ?_
  repeat (first | refine pn_thenr ?_ | refine pn_blkr ?_)
  exact ret1 hcx rfl (rv_tmp rfl) (.refl _) en

theorem r13_Bg2 {p q : List Int} {k : Nat} (hp : p.length ≤ 1048576) (hq : q.length ≤ 1048576) (hk : k ≤ 1099511627776) (h : p.length ≤ q.length) {w : Nat} (hw : w < p.length) (hw1 : p.getD w 0 ≠ q.getD w 0) (hw2 : ∀ i, i < w → p.getD i 0 = q.getD i 0) : Fn Try.prog 11 [T.l (cZ k) p, T.l (cZ k) q] [] [] [] (T.c (.bool false)) := by
  refine fn_of Try.func11 rfl (by show 2 ≤ 27; decide) fun cx hcx => ?_
  refine tri_sub (sl 0 rfl (sl 1 rfl sn)) en ?_
  refine tri_seq ?_
  refine tri_reg mixed hcx ?_ _ _
  refine asg rfl ?_
  refine ⟨by kernel_rfl, ?_⟩
  refine nx (sl 0 rfl (sl 1 rfl sn)) en ?_
  refine tri_seq ?_
  refine tri_seq ?_
  refine tri_reg mixed hcx ?_ _ _
  refine mv rfl ?_
  refine ln slZs rfl ?_
  refine mv rfl ?_
  refine ln slZs rfl ?_
  refine cgt rfl rfl (decide_eq_false (by omega)) ?_
  refine ⟨by kernel_rfl, ?_⟩
  refine nx (sl 0 rfl (sl 1 rfl (sl 10 rfl sn))) en ?_
  refine tri_false rfl rfl ?_
  refine tri_skip ?_
  refine nx (sl 0 rfl (sl 1 rfl sn)) en ?_
  refine tri_seq ?_
  refine tri_seq ?_
  refine tri_reg mixed hcx ?_ _ _
  refine asg rfl ?_
  refine ⟨by kernel_rfl, ?_⟩
  refine nx (sl 0 rfl (sl 1 rfl (sl 5 rfl sn))) en ?_
  refine tri_block ?_
  refine tri_loop (ι := Nat) (fun i => [(0, T.l (cZ k) p), (1, T.l (cZ k) q), (5, T.c (.int .i64 (i : Int)))]) (fun i => []) (fun i => p.length - i) (fun i => (i ≤ w)) 0 (Nat.zero_le _) (sl 0 rfl (sl 1 rfl (sl 5 rfl sn))) en ?_
  rintro i hi
  refine tri_sub (sl 0 rfl (sl 1 rfl (sl 5 rfl sn))) en ?_
  refine tri_seq ?_
  refine tri_seq ?_
  refine tri_reg mixed hcx ?_ _ _
  refine mv rfl ?_
  refine mv rfl ?_
  refine ln slZs rfl ?_
  refine clt rfl rfl (decide_eq_true (by omega)) ?_
  refine ⟨by kernel_rfl, ?_⟩
  refine nx (sl 0 rfl (sl 1 rfl (sl 5 rfl (sl 14 rfl sn)))) en ?_
  refine tri_true rfl rfl ?_
  refine tri_skip ?_
  refine nx (sl 0 rfl (sl 1 rfl (sl 5 rfl sn))) en ?_
  refine tri_seq ?_
  refine tri_block ?_
  refine tri_seq ?_
  rcases Nat.eq_or_lt_of_le hi with heq | hlt
  · obtain rfl : i = w := heq
    have hne : (p.getD i (cZ k).dflt) ≠ (q.getD i (cZ k).dflt) := hw1
    have hsn : sgnc (p.getD i (cZ k).dflt) (q.getD i (cZ k).dflt) ≠ 0 := by unfold sgnc; split <;> (try split) <;> omega
    refine tri_reg mixed hcx ?_ _ _
    refine mv rfl ?_
    refine mv rfl ?_
    refine ix rfl rfl slZs ⟨rfl, by omega⟩ ?_
    refine lf rfl tyZ ?_
    refine mv rfl ?_
    refine mv rfl ?_
    refine ix rfl rfl slZs ⟨rfl, by omega⟩ ?_
    refine lf rfl tyZ ?_
    refine ca rfl (h := r02_Cmp (by omega) (by omega)) (hn := ?_)
    refine cne rfl rfl (decide_eq_true (by omega)) ?_
    refine ⟨by kernel_rfl, ?_⟩
    refine nx (sl 0 rfl (sl 1 rfl (sl 5 rfl (sl 26 rfl sn)))) en ?_
    refine tri_true rfl rfl ?_
    refine tri_seq ?_
    refine tri_reg mixed hcx ?_ _ _
    refine asg rfl ?_
    refine ⟨by kernel_rfl, ?_⟩
    refine nx (sl 4 rfl sn) en ?_
    refine tri_ret ?_
    repeat (first | refine pn_thenr ?_ | refine pn_blkr ?_)
    exact ret1 hcx rfl (rv_tmp rfl) (.refl _) en
  · have heq2 : (p.getD i (cZ k).dflt) = (q.getD i (cZ k).dflt) := hw2 i hlt
    have hsn : sgnc (p.getD i (cZ k).dflt) (q.getD i (cZ k).dflt) = 0 := sgnc_eq heq2
    refine tri_reg mixed hcx ?_ _ _
    refine mv rfl ?_
    refine mv rfl ?_
    refine ix rfl rfl slZs ⟨rfl, by omega⟩ ?_
    refine lf rfl tyZ ?_
    refine mv rfl ?_
    refine mv rfl ?_
    refine ix rfl rfl slZs ⟨rfl, by omega⟩ ?_
    refine lf rfl tyZ ?_
    refine ca rfl (h := r02_Cmp (by omega) (by omega)) (hn := ?_)
    refine cne rfl rfl (decide_eq_false (by omega)) ?_
    refine ⟨by kernel_rfl, ?_⟩
    refine nx (sl 0 rfl (sl 1 rfl (sl 5 rfl (sl 26 rfl sn)))) en ?_
    refine tri_false rfl rfl ?_
    refine tri_skip ?_
    refine pn_blk ?_
    refine nx (sl 0 rfl (sl 1 rfl (sl 5 rfl sn))) en ?_
    refine tri_reg mixed hcx ?_ _ _
    refine mv rfl ?_
    refine ad (((i + 1 : Nat) : Int)) rfl rfl rfl (by omega) ?_
    refine asg rfl ?_
    refine ⟨by kernel_rfl, ?_⟩
    exact pn_back (i + 1) (by first | omega | (dsimp only; omega)) (by omega) (sl 0 rfl (sl 1 rfl (sl 5 rfl sn))) en

theorem r13_Bg3 {p q : List Int} {k : Nat} (hp : p.length ≤ 1048576) (hq : q.length ≤ 1048576) (hk : k ≤ 1099511627776) (h : p.length ≤ q.length) (hw2 : ∀ i, i < p.length → p.getD i 0 = q.getD i 0) : Fn Try.prog 11 [T.l (cZ k) p, T.l (cZ k) q] [] [] [] (T.c (.bool true)) := by
  refine fn_of Try.func11 rfl (by show 2 ≤ 27; decide) fun cx hcx => ?_
  refine tri_sub (sl 0 rfl (sl 1 rfl sn)) en ?_
  refine tri_seq ?_
  refine tri_reg mixed hcx ?_ _ _
  refine asg rfl ?_
  refine ⟨by kernel_rfl, ?_⟩
  refine nx (sl 0 rfl (sl 1 rfl sn)) en ?_
  refine tri_seq ?_
  refine tri_seq ?_
  refine tri_reg mixed hcx ?_ _ _
  refine mv rfl ?_
  refine ln slZs rfl ?_
  refine mv rfl ?_
  refine ln slZs rfl ?_
  refine cgt rfl rfl (decide_eq_false (by omega)) ?_
  refine ⟨by kernel_rfl, ?_⟩
  refine nx (sl 0 rfl (sl 1 rfl (sl 10 rfl sn))) en ?_
  refine tri_false rfl rfl ?_
  refine tri_skip ?_
  refine nx (sl 0 rfl (sl 1 rfl sn)) en ?_
  refine tri_seq ?_
  refine tri_seq ?_
  refine tri_reg mixed hcx ?_ _ _
  refine asg rfl ?_
  refine ⟨by kernel_rfl, ?_⟩
  refine nx (sl 0 rfl (sl 1 rfl (sl 5 rfl sn))) en ?_
  refine tri_block ?_
  refine tri_loop (ι := Nat) (fun i => [(0, T.l (cZ k) p), (1, T.l (cZ k) q), (5, T.c (.int .i64 (i : Int)))]) (fun i => []) (fun i => p.length - i) (fun i => (i ≤ p.length)) 0 (Nat.zero_le _) (sl 0 rfl (sl 1 rfl (sl 5 rfl sn))) en ?_
  rintro i hi
  refine tri_sub (sl 0 rfl (sl 1 rfl (sl 5 rfl sn))) en ?_
  refine tri_seq ?_
  refine tri_seq ?_
  refine tri_reg mixed hcx ?_ _ _
  refine mv rfl ?_
  refine mv rfl ?_
  refine ln slZs rfl ?_
  refine clt rfl rfl rfl ?_
  refine ⟨by kernel_rfl, ?_⟩
  refine nx (sl 0 rfl (sl 1 rfl (sl 5 rfl (sl 14 rfl sn)))) en ?_
  refine tri_if rfl (fun hcc => ?_) (fun hcc => ?_)
  · have hlt : i < p.length := by omega
    have heq2 : (p.getD i (cZ k).dflt) = (q.getD i (cZ k).dflt) := hw2 i hlt
    have hsn : sgnc (p.getD i (cZ k).dflt) (q.getD i (cZ k).dflt) = 0 := sgnc_eq heq2
    refine tri_skip ?_
    refine nx (sl 0 rfl (sl 1 rfl (sl 5 rfl sn))) en ?_
    refine tri_seq ?_
    refine tri_block ?_
    refine tri_seq ?_
    refine tri_reg mixed hcx ?_ _ _
    refine mv rfl ?_
    refine mv rfl ?_
    refine ix rfl rfl slZs ⟨rfl, by omega⟩ ?_
    refine lf rfl tyZ ?_
    refine mv rfl ?_
    refine mv rfl ?_
    refine ix rfl rfl slZs ⟨rfl, by omega⟩ ?_
    refine lf rfl tyZ ?_
    refine ca rfl (h := r02_Cmp (by omega) (by omega)) (hn := ?_)
    refine cne rfl rfl (decide_eq_false (by omega)) ?_
    refine ⟨by kernel_rfl, ?_⟩
    refine nx (sl 0 rfl (sl 1 rfl (sl 5 rfl (sl 26 rfl sn)))) en ?_
    refine tri_false rfl rfl ?_
    refine tri_skip ?_
    refine pn_blk ?_
    refine nx (sl 0 rfl (sl 1 rfl (sl 5 rfl sn))) en ?_
    refine tri_reg mixed hcx ?_ _ _
    refine mv rfl ?_
    refine ad (((i + 1 : Nat) : Int)) rfl rfl rfl (by omega) ?_
    refine asg rfl ?_
    refine ⟨by kernel_rfl, ?_⟩
    exact pn_back (i + 1) (by first | omega | (dsimp only; omega)) (by omega) (sl 0 rfl (sl 1 rfl (sl 5 rfl sn))) en
  · refine tri_exit ?_
    repeat (first | refine pn_then ?_ | refine pn_oth (by decide) ?_)
    refine pn_ex ?_
    refine nx sn en ?_
    refine tri_seq ?_
    refine tri_reg mixed hcx ?_ _ _
    refine asg rfl ?_
    refine ⟨by kernel_rfl, ?_⟩
    refine nx (sl 4 rfl sn) en ?_
    refine tri_ret ?_
    repeat (first | refine pn_thenr ?_ | refine pn_blkr ?_)
    exact ret1 hcx rfl (rv_tmp rfl) (.refl _) en

theorem r13_Begins {p q : List Int} {k : Nat} (hp : p.length ≤ 1048576) (hq : q.length ≤ 1048576) (hk : k ≤ 1099511627776) {v : Bool} (hv : v = true ↔ Bgn p q) : Fn Try.prog 11 [T.l (cZ k) p, T.l (cZ k) q] [] [] [] (T.c (.bool v)) := by
  classical
  by_cases h : Bgn p q
  · rw [hv.2 h]; exact r13_Bg3 hp hq hk h.1 h.2
  · have hf : v = false := by cases v; rfl; exact absurd (hv.1 rfl) h
    rw [hf]
    rcases Nat.lt_or_ge q.length p.length with hl | hl
    · exact r13_Bg1 hp hq hk hl
    · obtain ⟨w, h1, h2, h3⟩ := least_not (fun hall => h ⟨hl, hall⟩)
      exact r13_Bg2 hp hq hk hl h1 h2 h3

theorem l13_ap_e {D : List Int} {L : List (List Int)} {ts : List (Int × Int)} {a b r : Int} {k mu : Nat} (hmu : mu < 65536) (hr : r ≠ 0) (hJ : Fn Try.prog 10 [T.Tr D L ts a b k, T.c (.int .i64 (((1 + mu % 64) : Nat) : Int))] [] [] [] (T.tup [T.c (.slice none 0 0), T.c (.slice none 0 0), T.c (.int .i64 r)])) : Fn Try.prog 4 [T.Tr D L ts a b k, T.c (.int .u16 (mu : Int))] [] [] [] (T.c (.bool true)) := by
  refine fn_of Try.func4 rfl (by show 2 ≤ 89; decide) fun cx hcx => ?_
  refine tri_sub (sl 0 rfl (sl 1 rfl sn)) en ?_
  refine tri_seq ?_
  refine tri_reg mixed hcx ?_ _ _
  refine bxs 10 rfl ?_
  refine asg rfl ?_
  refine ⟨by kernel_rfl, ?_⟩
  refine nx (sl 1 rfl (sl 2 rfl sn)) (el 10 rfl en) ?_
  refine tri_seq ?_
  refine tri_seq ?_
  refine tri_reg mixed hcx ?_ _ _
  refine ca rfl (h := l13_awake) (hn := ?_)
  refine nt rfl _ rfl ?_
  refine ⟨by kernel_rfl, ?_⟩
  refine nx (sl 1 rfl (sl 2 rfl (sl 12 rfl sn))) (el 10 rfl en) ?_
  refine tri_false rfl rfl ?_
  refine tri_skip ?_
  refine nx (sl 1 rfl (sl 2 rfl sn)) (el 10 rfl en) ?_
  refine tri_seq ?_
  refine tri_reg mixed hcx ?_ _ _
  refine ld rfl rfl tyTr rfl ?_
  refine mv rfl ?_
  refine re (((mu % 64 : Nat) : Int)) rfl rfl (by omega) ?_
  refine cvt _ rfl cvU16I rfl ⟨rfl, by omega, by omega⟩ ?_
  refine ad ((((1 + mu % 64) : Nat) : Int)) rfl rfl rfl (by omega) ?_
  refine ca rfl (h := hJ) (hn := ?_)
  refine mv rfl ?_
  refine ex rfl rfl ?_
  refine ex rfl rfl ?_
  refine ex rfl rfl ?_
  refine asg rfl ?_
  refine asg rfl ?_
  refine asg rfl ?_
  refine ⟨by kernel_rfl, ?_⟩
  refine nx (sl 5 rfl (sl 6 rfl (sl 7 rfl sn))) (el 10 rfl en) ?_
  refine tri_seq ?_
  refine tri_seq ?_
  refine tri_reg mixed hcx ?_ _ _
  refine mv rfl ?_
  refine cne rfl rfl (decide_eq_true hr) ?_
  refine ⟨by kernel_rfl, ?_⟩
  refine nx (sl 5 rfl (sl 6 rfl (sl 24 rfl sn))) (el 10 rfl en) ?_
  refine tri_true rfl rfl ?_
  refine tri_seq ?_
  refine tri_reg mixed hcx ?_ _ _
  refine mv rfl ?_
  refine ln slZss rfl ?_
  refine ceq rfl rfl rfl ?_
  refine mv rfl ?_
  refine mv rfl ?_ (hg := gd1)
  refine ln slJbs rfl ?_ (hg := gd1)
  refine ceq rfl rfl rfl ?_ (hg := gd1)
  refine pk rfl rfl ?_
  refine asg rfl ?_
  refine ⟨by kernel_rfl, ?_⟩
  refine nx (sl 4 rfl sn) (el 10 rfl en) ?_
  refine tri_ret ?_
  repeat (first | refine pn_thenr ?_ | refine pn_blkr ?_)
  exact ret1 hcx rfl (rv_tmp rfl) (.refl _) en

theorem l13_ap_ok {D : List Int} {L : List (List Int)} {ts : List (Int × Int)} {a b : Int} {k mu : Nat} {d l : List (List Int)} (hmu : mu < 65536) (hk : k ≤ 16777216) (hd : d.length ≤ 1048576) (hl : l.length ≤ 1048576) (hdr : ∀ i, i < d.length → (d.getD i []).length ≤ 1048576) (hlr : ∀ i, i < l.length → (l.getD i []).length ≤ 1048576) (hA : Apt d l) (hJ : Fn Try.prog 10 [T.Tr D L ts a b k, T.c (.int .i64 (((1 + mu % 64) : Nat) : Int))] [] [] [] (T.tup [T.l (cL (cZ k)) d, T.l (cJ k) l, T.c (.int .i64 0)])) : Fn Try.prog 4 [T.Tr D L ts a b k, T.c (.int .u16 (mu : Int))] [] [] [] (T.c (.bool true)) := by
  refine fn_of Try.func4 rfl (by show 2 ≤ 89; decide) fun cx hcx => ?_
  refine tri_sub (sl 0 rfl (sl 1 rfl sn)) en ?_
  refine tri_seq ?_
  refine tri_reg mixed hcx ?_ _ _
  refine bxs 10 rfl ?_
  refine asg rfl ?_
  refine ⟨by kernel_rfl, ?_⟩
  refine nx (sl 1 rfl (sl 2 rfl sn)) (el 10 rfl en) ?_
  refine tri_seq ?_
  refine tri_seq ?_
  refine tri_reg mixed hcx ?_ _ _
  refine ca rfl (h := l13_awake) (hn := ?_)
  refine nt rfl _ rfl ?_
  refine ⟨by kernel_rfl, ?_⟩
  refine nx (sl 1 rfl (sl 2 rfl (sl 12 rfl sn))) (el 10 rfl en) ?_
  refine tri_false rfl rfl ?_
  refine tri_skip ?_
  refine nx (sl 1 rfl (sl 2 rfl sn)) (el 10 rfl en) ?_
  refine tri_seq ?_
  refine tri_reg mixed hcx ?_ _ _
  refine ld rfl rfl tyTr rfl ?_
  refine mv rfl ?_
  refine re (((mu % 64 : Nat) : Int)) rfl rfl (by omega) ?_
  refine cvt _ rfl cvU16I rfl ⟨rfl, by omega, by omega⟩ ?_
  refine ad ((((1 + mu % 64) : Nat) : Int)) rfl rfl rfl (by omega) ?_
  refine ca rfl (h := hJ) (hn := ?_)
  refine mv rfl ?_
  refine ex rfl rfl ?_
  refine ex rfl rfl ?_
  refine ex rfl rfl ?_
  refine asg rfl ?_
  refine asg rfl ?_
  refine asg rfl ?_
  refine ⟨by kernel_rfl, ?_⟩
  refine nx (sl 5 rfl (sl 6 rfl (sl 7 rfl sn))) (el 10 rfl en) ?_
  refine tri_seq ?_
  refine tri_seq ?_
  refine tri_reg mixed hcx ?_ _ _
  refine mv rfl ?_
  refine cne rfl rfl (decide_eq_false (by omega)) ?_
  refine ⟨by kernel_rfl, ?_⟩
  refine nx (sl 5 rfl (sl 6 rfl (sl 24 rfl sn))) (el 10 rfl en) ?_
  refine tri_false rfl rfl ?_
  refine tri_skip ?_
  refine nx (sl 5 rfl (sl 6 rfl sn)) (el 10 rfl en) ?_
  refine tri_seq ?_
  refine tri_seq ?_
  refine tri_reg mixed hcx ?_ _ _
  refine asg rfl ?_
  refine ⟨by kernel_rfl, ?_⟩
  refine nx (sl 5 rfl (sl 6 rfl (sl 8 rfl sn))) (el 10 rfl en) ?_
  refine tri_block ?_
  refine tri_loop (ι := Nat) (fun i => [(5, T.l (cL (cZ k)) d), (6, T.l (cJ k) l), (8, T.c (.int .i64 (i : Int)))]) (fun i => []) (fun i => l.length - i) (fun i => (i ≤ l.length)) 0 (Nat.zero_le _) (sl 5 rfl (sl 6 rfl (sl 8 rfl sn))) en ?_
  rintro i hi
  refine tri_sub (sl 5 rfl (sl 6 rfl (sl 8 rfl sn))) en ?_
  refine tri_seq ?_
  refine tri_seq ?_
  rcases lt3 i l.length 200 with ⟨q7, q72⟩ | ⟨q7, q72⟩ | q7
  · refine tri_reg mixed hcx ?_ _ _
    refine mv rfl ?_
    refine mv rfl ?_
    refine ln slJbs rfl ?_
    refine clt rfl rfl (decide_eq_true (by omega)) ?_
    refine mv rfl ?_
    refine mv rfl ?_ (hg := gd1)
    refine clt rfl rfl (decide_eq_true (by omega)) ?_ (hg := gd1)
    refine pk rfl rfl ?_
    refine ⟨by kernel_rfl, ?_⟩
    refine nx (sl 5 rfl (sl 6 rfl (sl 8 rfl (sl 40 rfl sn)))) en ?_
    refine tri_true rfl rfl ?_
    refine tri_skip ?_
    refine nx (sl 5 rfl (sl 6 rfl (sl 8 rfl sn))) en ?_
    refine tri_seq ?_
    refine tri_block ?_
    refine tri_seq ?_
    refine tri_seq ?_
    refine tri_reg mixed hcx ?_ _ _
    refine asg rfl ?_
    refine ⟨by kernel_rfl, ?_⟩
    refine nx (sl 5 rfl (sl 6 rfl (sl 8 rfl (sl 9 rfl sn)))) en ?_
    refine tri_block ?_
    refine tri_loop (ι := Nat) (fun e => [(5, T.l (cL (cZ k)) d), (6, T.l (cJ k) l), (8, T.c (.int .i64 (i : Int))), (9, T.c (.int .i64 (e : Int)))]) (fun e => []) (fun e => l.length - e) (fun e => (e ≤ l.length)) 0 (Nat.zero_le _) (sl 5 rfl (sl 6 rfl (sl 8 rfl (sl 9 rfl sn)))) en ?_
    rintro e he
    refine tri_sub (sl 5 rfl (sl 6 rfl (sl 8 rfl (sl 9 rfl sn)))) en ?_
    refine tri_seq ?_
    refine tri_seq ?_
    rcases lt3 e l.length 2000 with ⟨q10, q102⟩ | ⟨q10, q102⟩ | q10
    · refine tri_reg mixed hcx ?_ _ _
      refine mv rfl ?_
      refine mv rfl ?_
      refine ln slJbs rfl ?_
      refine clt rfl rfl (decide_eq_true (by omega)) ?_
      refine mv rfl ?_
      refine mv rfl ?_ (hg := gd1)
      refine clt rfl rfl (decide_eq_true (by omega)) ?_ (hg := gd1)
      refine pk rfl rfl ?_
      refine ⟨by kernel_rfl, ?_⟩
      refine nx (sl 5 rfl (sl 6 rfl (sl 8 rfl (sl 9 rfl (sl 50 rfl sn))))) en ?_
      refine tri_true rfl rfl ?_
      refine tri_skip ?_
      refine nx (sl 5 rfl (sl 6 rfl (sl 8 rfl (sl 9 rfl sn)))) en ?_
      refine tri_seq ?_
      refine tri_block ?_
      refine tri_seq ?_
      by_cases hei : i = e
      · have hei2 : (i : Int) = (e : Int) := by omega
        refine tri_reg mixed hcx ?_ _ _
        refine mv rfl ?_
        refine mv rfl ?_
        refine cne rfl rfl (decide_eq_false (by omega)) ?_
        refine mv rfl ?_
        refine j_off rfl rfl rfl rfl ?_
        refine j_off rfl rfl rfl rfl ?_
        refine j_off rfl rfl rfl rfl ?_
        refine j_off rfl rfl rfl rfl ?_
        refine j_off rfl rfl rfl rfl ?_
        refine j_off rfl rfl rfl rfl ?_
        refine j_off rfl rfl rfl rfl ?_
        refine j_off rfl rfl rfl rfl ?_
        refine j_off rfl rfl rfl rfl ?_
        refine j_off rfl rfl rfl rfl ?_
        refine j_off rfl rfl rfl rfl ?_
        refine pk rfl rfl ?_
        refine ⟨by kernel_rfl, ?_⟩
        refine nx (sl 5 rfl (sl 6 rfl (sl 8 rfl (sl 9 rfl (sl 68 rfl sn))))) en ?_
        refine tri_false rfl rfl ?_
        refine tri_skip ?_
        refine pn_blk ?_
        refine nx (sl 5 rfl (sl 6 rfl (sl 8 rfl (sl 9 rfl sn)))) en ?_
        refine tri_reg mixed hcx ?_ _ _
        refine mv rfl ?_
        refine ad (((e + 1 : Nat) : Int)) rfl rfl rfl (by omega) ?_
        refine asg rfl ?_
        refine ⟨by kernel_rfl, ?_⟩
        exact pn_back (e + 1) (by first | omega | (dsimp only; omega)) (by omega) (sl 5 rfl (sl 6 rfl (sl 8 rfl (sl 9 rfl sn)))) en
      · have hei2 : (i : Int) ≠ (e : Int) := by omega
        refine tri_reg mixed hcx ?_ _ _
        refine mv rfl ?_
        refine mv rfl ?_
        refine cne rfl rfl (decide_eq_true (by omega)) ?_
        refine mv rfl ?_
        refine mv rfl ?_ (hg := gd1)
        refine mv rfl ?_ (hg := gd1)
        refine ix rfl rfl slJbs ⟨rfl, by omega⟩ ?_ (hg := gd1)
        refine ff rfl fJbR rfl ?_ (hg := gd1)
        refine lf rfl tyZs ?_ (hg := gd1)
        refine mv rfl ?_ (hg := gd1)
        refine mv rfl ?_ (hg := gd1)
        refine ix rfl rfl slJbs ⟨rfl, by omega⟩ ?_ (hg := gd1)
        refine ff rfl fJbR rfl ?_ (hg := gd1)
        refine lf rfl tyZs ?_ (hg := gd1)
        refine ca rfl (h := r13_Begins (p := l.getD i []) (q := l.getD e []) (k := k) (v := false) (hlr i q7) (hlr e q10) (by omega) (iff_of_false Bool.false_ne_true (hA.1 i e q7 q10 hei))) (hn := ?_) (hg := gd1)
        refine pk rfl rfl ?_
        refine ⟨by kernel_rfl, ?_⟩
        refine nx (sl 5 rfl (sl 6 rfl (sl 8 rfl (sl 9 rfl (sl 68 rfl sn))))) en ?_
        refine tri_false rfl rfl ?_
        refine tri_skip ?_
        refine pn_blk ?_
        refine nx (sl 5 rfl (sl 6 rfl (sl 8 rfl (sl 9 rfl sn)))) en ?_
        refine tri_reg mixed hcx ?_ _ _
        refine mv rfl ?_
        refine ad (((e + 1 : Nat) : Int)) rfl rfl rfl (by omega) ?_
        refine asg rfl ?_
        refine ⟨by kernel_rfl, ?_⟩
        exact pn_back (e + 1) (by first | omega | (dsimp only; omega)) (by omega) (sl 5 rfl (sl 6 rfl (sl 8 rfl (sl 9 rfl sn)))) en
    · refine tri_reg mixed hcx ?_ _ _
      refine mv rfl ?_
      refine mv rfl ?_
      refine ln slJbs rfl ?_
      refine clt rfl rfl (decide_eq_true (by omega)) ?_
      refine mv rfl ?_
      refine mv rfl ?_ (hg := gd1)
      refine clt rfl rfl (decide_eq_false (by omega)) ?_ (hg := gd1)
      refine pk rfl rfl ?_
      refine ⟨by kernel_rfl, ?_⟩
      refine nx (sl 5 rfl (sl 6 rfl (sl 8 rfl (sl 9 rfl (sl 50 rfl sn))))) en ?_
      refine tri_false rfl rfl ?_
      refine tri_exit ?_
      repeat (first | refine pn_then ?_ | refine pn_oth (by decide) ?_)
      refine pn_ex ?_
      refine nx (sl 5 rfl (sl 6 rfl (sl 8 rfl sn))) en ?_
      refine tri_seq ?_
      refine tri_reg mixed hcx ?_ _ _
      refine asg rfl ?_
      refine ⟨by kernel_rfl, ?_⟩
      refine nx (sl 5 rfl (sl 6 rfl (sl 8 rfl (sl 10 rfl sn)))) en ?_
      refine tri_block ?_
      refine tri_loop (ι := Nat) (fun f => [(5, T.l (cL (cZ k)) d), (6, T.l (cJ k) l), (8, T.c (.int .i64 (i : Int))), (10, T.c (.int .i64 (f : Int)))]) (fun f => []) (fun f => d.length - f) (fun f => (f ≤ d.length)) 0 (Nat.zero_le _) (sl 5 rfl (sl 6 rfl (sl 8 rfl (sl 10 rfl sn)))) en ?_
      rintro f hf
      refine tri_sub (sl 5 rfl (sl 6 rfl (sl 8 rfl (sl 10 rfl sn)))) en ?_
      refine tri_seq ?_
      refine tri_seq ?_
      rcases lt3 f d.length 2000 with ⟨q15, q152⟩ | ⟨q15, q152⟩ | q15
      · refine tri_reg mixed hcx ?_ _ _
        refine mv rfl ?_
        refine mv rfl ?_
        refine ln slZss rfl ?_
        refine clt rfl rfl (decide_eq_true (by omega)) ?_
        refine mv rfl ?_
        refine mv rfl ?_ (hg := gd1)
        refine clt rfl rfl (decide_eq_true (by omega)) ?_ (hg := gd1)
        refine pk rfl rfl ?_
        refine ⟨by kernel_rfl, ?_⟩
        refine nx (sl 5 rfl (sl 6 rfl (sl 8 rfl (sl 10 rfl (sl 76 rfl sn))))) en ?_
        refine tri_true rfl rfl ?_
        refine tri_skip ?_
        refine nx (sl 5 rfl (sl 6 rfl (sl 8 rfl (sl 10 rfl sn)))) en ?_
        refine tri_seq ?_
        refine tri_block ?_
        refine tri_seq ?_
        refine tri_reg mixed hcx ?_ _ _
        refine mv rfl ?_
        refine mv rfl ?_
        refine ix rfl rfl slJbs ⟨rfl, by omega⟩ ?_
        refine ff rfl fJbR rfl ?_
        refine lf rfl tyZs ?_
        refine mv rfl ?_
        refine mv rfl ?_
        refine ix rfl rfl slZss ⟨rfl, by omega⟩ ?_
        refine lf rfl tyZs ?_
        refine ca rfl (h := r13_Begins (p := l.getD i []) (q := d.getD f []) (k := k) (v := false) (hlr i q7) (hdr f q15) (by omega) (iff_of_false Bool.false_ne_true (hA.2 i f q7 q15))) (hn := ?_)
        refine ⟨by kernel_rfl, ?_⟩
        refine nx (sl 5 rfl (sl 6 rfl (sl 8 rfl (sl 10 rfl (sl 88 rfl sn))))) en ?_
        refine tri_false rfl rfl ?_
        refine tri_skip ?_
        refine pn_blk ?_
        refine nx (sl 5 rfl (sl 6 rfl (sl 8 rfl (sl 10 rfl sn)))) en ?_
        refine tri_reg mixed hcx ?_ _ _
        refine mv rfl ?_
        refine ad (((f + 1 : Nat) : Int)) rfl rfl rfl (by omega) ?_
        refine asg rfl ?_
        refine ⟨by kernel_rfl, ?_⟩
        exact pn_back (f + 1) (by first | omega | (dsimp only; omega)) (by omega) (sl 5 rfl (sl 6 rfl (sl 8 rfl (sl 10 rfl sn)))) en
      · refine tri_reg mixed hcx ?_ _ _
        refine mv rfl ?_
        refine mv rfl ?_
        refine ln slZss rfl ?_
        refine clt rfl rfl (decide_eq_true (by omega)) ?_
        refine mv rfl ?_
        refine mv rfl ?_ (hg := gd1)
        refine clt rfl rfl (decide_eq_false (by omega)) ?_ (hg := gd1)
        refine pk rfl rfl ?_
        refine ⟨by kernel_rfl, ?_⟩
        refine nx (sl 5 rfl (sl 6 rfl (sl 8 rfl (sl 10 rfl (sl 76 rfl sn))))) en ?_
        refine tri_false rfl rfl ?_
        refine tri_exit ?_
        repeat (first | refine pn_then ?_ | refine pn_oth (by decide) ?_)
        refine pn_ex ?_
        refine pn_blk ?_
        refine nx (sl 5 rfl (sl 6 rfl (sl 8 rfl sn))) en ?_
        refine tri_reg mixed hcx ?_ _ _
        refine mv rfl ?_
        refine ad (((i + 1 : Nat) : Int)) rfl rfl rfl (by omega) ?_
        refine asg rfl ?_
        refine ⟨by kernel_rfl, ?_⟩
        exact pn_back (i + 1) (by first | omega | (dsimp only; omega)) (by omega) (sl 5 rfl (sl 6 rfl (sl 8 rfl sn))) en
      · refine tri_reg mixed hcx ?_ _ _
        refine mv rfl ?_
        refine mv rfl ?_
        refine ln slZss rfl ?_
        refine clt rfl rfl (decide_eq_false (by omega)) ?_
        refine mv rfl ?_
        refine j_off rfl rfl rfl rfl ?_
        refine j_off rfl rfl rfl rfl ?_
        refine pk rfl rfl ?_
        refine ⟨by kernel_rfl, ?_⟩
        refine nx (sl 5 rfl (sl 6 rfl (sl 8 rfl (sl 10 rfl (sl 76 rfl sn))))) en ?_
        refine tri_false rfl rfl ?_
        refine tri_exit ?_
        repeat (first | refine pn_then ?_ | refine pn_oth (by decide) ?_)
        refine pn_ex ?_
        refine pn_blk ?_
        refine nx (sl 5 rfl (sl 6 rfl (sl 8 rfl sn))) en ?_
        refine tri_reg mixed hcx ?_ _ _
        refine mv rfl ?_
        refine ad (((i + 1 : Nat) : Int)) rfl rfl rfl (by omega) ?_
        refine asg rfl ?_
        refine ⟨by kernel_rfl, ?_⟩
        exact pn_back (i + 1) (by first | omega | (dsimp only; omega)) (by omega) (sl 5 rfl (sl 6 rfl (sl 8 rfl sn))) en
    · refine tri_reg mixed hcx ?_ _ _
      refine mv rfl ?_
      refine mv rfl ?_
      refine ln slJbs rfl ?_
      refine clt rfl rfl (decide_eq_false (by omega)) ?_
      refine mv rfl ?_
      refine j_off rfl rfl rfl rfl ?_
      refine j_off rfl rfl rfl rfl ?_
      refine pk rfl rfl ?_
      refine ⟨by kernel_rfl, ?_⟩
      refine nx (sl 5 rfl (sl 6 rfl (sl 8 rfl (sl 9 rfl (sl 50 rfl sn))))) en ?_
      refine tri_false rfl rfl ?_
      refine tri_exit ?_
      repeat (first | refine pn_then ?_ | refine pn_oth (by decide) ?_)
      refine pn_ex ?_
      refine nx (sl 5 rfl (sl 6 rfl (sl 8 rfl sn))) en ?_
      refine tri_seq ?_
      refine tri_reg mixed hcx ?_ _ _
      refine asg rfl ?_
      refine ⟨by kernel_rfl, ?_⟩
      refine nx (sl 5 rfl (sl 6 rfl (sl 8 rfl (sl 10 rfl sn)))) en ?_
      refine tri_block ?_
      refine tri_loop (ι := Nat) (fun f => [(5, T.l (cL (cZ k)) d), (6, T.l (cJ k) l), (8, T.c (.int .i64 (i : Int))), (10, T.c (.int .i64 (f : Int)))]) (fun f => []) (fun f => d.length - f) (fun f => (f ≤ d.length)) 0 (Nat.zero_le _) (sl 5 rfl (sl 6 rfl (sl 8 rfl (sl 10 rfl sn)))) en ?_
      rintro f hf
      refine tri_sub (sl 5 rfl (sl 6 rfl (sl 8 rfl (sl 10 rfl sn)))) en ?_
      refine tri_seq ?_
      refine tri_seq ?_
      rcases lt3 f d.length 2000 with ⟨q15, q152⟩ | ⟨q15, q152⟩ | q15
      · refine tri_reg mixed hcx ?_ _ _
        refine mv rfl ?_
        refine mv rfl ?_
        refine ln slZss rfl ?_
        refine clt rfl rfl (decide_eq_true (by omega)) ?_
        refine mv rfl ?_
        refine mv rfl ?_ (hg := gd1)
        refine clt rfl rfl (decide_eq_true (by omega)) ?_ (hg := gd1)
        refine pk rfl rfl ?_
        refine ⟨by kernel_rfl, ?_⟩
        refine nx (sl 5 rfl (sl 6 rfl (sl 8 rfl (sl 10 rfl (sl 76 rfl sn))))) en ?_
        refine tri_true rfl rfl ?_
        refine tri_skip ?_
        refine nx (sl 5 rfl (sl 6 rfl (sl 8 rfl (sl 10 rfl sn)))) en ?_
        refine tri_seq ?_
        refine tri_block ?_
        refine tri_seq ?_
        refine tri_reg mixed hcx ?_ _ _
        refine mv rfl ?_
        refine mv rfl ?_
        refine ix rfl rfl slJbs ⟨rfl, by omega⟩ ?_
        refine ff rfl fJbR rfl ?_
        refine lf rfl tyZs ?_
        refine mv rfl ?_
        refine mv rfl ?_
        refine ix rfl rfl slZss ⟨rfl, by omega⟩ ?_
        refine lf rfl tyZs ?_
        refine ca rfl (h := r13_Begins (p := l.getD i []) (q := d.getD f []) (k := k) (v := false) (hlr i q7) (hdr f q15) (by omega) (iff_of_false Bool.false_ne_true (hA.2 i f q7 q15))) (hn := ?_)
        refine ⟨by kernel_rfl, ?_⟩
        refine nx (sl 5 rfl (sl 6 rfl (sl 8 rfl (sl 10 rfl (sl 88 rfl sn))))) en ?_
        refine tri_false rfl rfl ?_
        refine tri_skip ?_
        refine pn_blk ?_
        refine nx (sl 5 rfl (sl 6 rfl (sl 8 rfl (sl 10 rfl sn)))) en ?_
        refine tri_reg mixed hcx ?_ _ _
        refine mv rfl ?_
        refine ad (((f + 1 : Nat) : Int)) rfl rfl rfl (by omega) ?_
        refine asg rfl ?_
        refine ⟨by kernel_rfl, ?_⟩
        exact pn_back (f + 1) (by first | omega | (dsimp only; omega)) (by omega) (sl 5 rfl (sl 6 rfl (sl 8 rfl (sl 10 rfl sn)))) en
      · refine tri_reg mixed hcx ?_ _ _
        refine mv rfl ?_
        refine mv rfl ?_
        refine ln slZss rfl ?_
        refine clt rfl rfl (decide_eq_true (by omega)) ?_
        refine mv rfl ?_
        refine mv rfl ?_ (hg := gd1)
        refine clt rfl rfl (decide_eq_false (by omega)) ?_ (hg := gd1)
        refine pk rfl rfl ?_
        refine ⟨by kernel_rfl, ?_⟩
        refine nx (sl 5 rfl (sl 6 rfl (sl 8 rfl (sl 10 rfl (sl 76 rfl sn))))) en ?_
        refine tri_false rfl rfl ?_
        refine tri_exit ?_
        repeat (first | refine pn_then ?_ | refine pn_oth (by decide) ?_)
        refine pn_ex ?_
        refine pn_blk ?_
        refine nx (sl 5 rfl (sl 6 rfl (sl 8 rfl sn))) en ?_
        refine tri_reg mixed hcx ?_ _ _
        refine mv rfl ?_
        refine ad (((i + 1 : Nat) : Int)) rfl rfl rfl (by omega) ?_
        refine asg rfl ?_
        refine ⟨by kernel_rfl, ?_⟩
        exact pn_back (i + 1) (by first | omega | (dsimp only; omega)) (by omega) (sl 5 rfl (sl 6 rfl (sl 8 rfl sn))) en
      · refine tri_reg mixed hcx ?_ _ _
        refine mv rfl ?_
        refine mv rfl ?_
        refine ln slZss rfl ?_
        refine clt rfl rfl (decide_eq_false (by omega)) ?_
        refine mv rfl ?_
        refine j_off rfl rfl rfl rfl ?_
        refine j_off rfl rfl rfl rfl ?_
        refine pk rfl rfl ?_
        refine ⟨by kernel_rfl, ?_⟩
        refine nx (sl 5 rfl (sl 6 rfl (sl 8 rfl (sl 10 rfl (sl 76 rfl sn))))) en ?_
        refine tri_false rfl rfl ?_
        refine tri_exit ?_
        repeat (first | refine pn_then ?_ | refine pn_oth (by decide) ?_)
        refine pn_ex ?_
        refine pn_blk ?_
        refine nx (sl 5 rfl (sl 6 rfl (sl 8 rfl sn))) en ?_
        refine tri_reg mixed hcx ?_ _ _
        refine mv rfl ?_
        refine ad (((i + 1 : Nat) : Int)) rfl rfl rfl (by omega) ?_
        refine asg rfl ?_
        refine ⟨by kernel_rfl, ?_⟩
        exact pn_back (i + 1) (by first | omega | (dsimp only; omega)) (by omega) (sl 5 rfl (sl 6 rfl (sl 8 rfl sn))) en
  · refine tri_reg mixed hcx ?_ _ _
    refine mv rfl ?_
    refine mv rfl ?_
    refine ln slJbs rfl ?_
    refine clt rfl rfl (decide_eq_true (by omega)) ?_
    refine mv rfl ?_
    refine mv rfl ?_ (hg := gd1)
    refine clt rfl rfl (decide_eq_false (by omega)) ?_ (hg := gd1)
    refine pk rfl rfl ?_
    refine ⟨by kernel_rfl, ?_⟩
    refine nx (sl 5 rfl (sl 6 rfl (sl 8 rfl (sl 40 rfl sn)))) en ?_
    refine tri_false rfl rfl ?_
    refine tri_exit ?_
    repeat (first | refine pn_then ?_ | refine pn_oth (by decide) ?_)
    refine pn_ex ?_
    refine nx sn en ?_
    refine tri_seq ?_
    refine tri_reg mixed hcx ?_ _ _
    refine asg rfl ?_
    refine ⟨by kernel_rfl, ?_⟩
    refine nx (sl 4 rfl sn) en ?_
    refine tri_ret ?_
    repeat (first | refine pn_thenr ?_ | refine pn_blkr ?_)
    exact ret1 hcx rfl (rv_tmp rfl) (.refl _) en
  · refine tri_reg mixed hcx ?_ _ _
    refine mv rfl ?_
    refine mv rfl ?_
    refine ln slJbs rfl ?_
    refine clt rfl rfl (decide_eq_false (by omega)) ?_
    refine mv rfl ?_
    refine j_off rfl rfl rfl rfl ?_
    refine j_off rfl rfl rfl rfl ?_
    refine pk rfl rfl ?_
    refine ⟨by kernel_rfl, ?_⟩
    refine nx (sl 5 rfl (sl 6 rfl (sl 8 rfl (sl 40 rfl sn)))) en ?_
    refine tri_false rfl rfl ?_
    refine tri_exit ?_
    repeat (first | refine pn_then ?_ | refine pn_oth (by decide) ?_)
    refine pn_ex ?_
    refine nx sn en ?_
    refine tri_seq ?_
    refine tri_reg mixed hcx ?_ _ _
    refine asg rfl ?_
    refine ⟨by kernel_rfl, ?_⟩
    refine nx (sl 4 rfl sn) en ?_
    refine tri_ret ?_
    repeat (first | refine pn_thenr ?_ | refine pn_blkr ?_)
    exact ret1 hcx rfl (rv_tmp rfl) (.refl _) en

/-- The law, of every tree and number. -/
theorem apart_all {D : List Int} {L : List (List Int)} {ts : List (Int × Int)} {a b : Int} {k mu : Nat} (hmu : mu < 65536) (hk : k ≤ 1048576) (hLl : L.length ≤ 1048576) (hDl : D.length ≤ 1048576) (htl : ts.length ≤ 1048576) : Fn Try.prog 4 [T.Tr D L ts a b k, T.c (.int .u16 (mu : Int))] [] [] [] (T.c (.bool true)) := fn_trz fun hZ => by
  classical
  by_cases hV : TrV D L ts a b
  · have h := hV.trs hZ (by omega)
    obtain ⟨hG, hn, ht, hd, hb, ha⟩ := hV
    have h2 := h.mono (K := 16777216) (by omega) (Nat.le_refl _)
    have hR0 : (0 : Rat) ≤ (a : Rat) / (b : Rat) := by rw [show (0 : Rat) = ((0 : Int) : Rat) from rfl, rle_div hb]; omega
    obtain ⟨t, res, hJ⟩ := JB.ex0 (many := 1 + mu % 64) (k := 16777216) h (by omega) (Rb.frac hZ.za hb) hR0 (by omega)
    obtain ⟨N, dd, ll, k1, k2, k3, k4⟩ := hJ.trace
    have hB := trace_b (by omega) k1 k2 k3
    have h12 := h.twelve
    have hP := sp_Jobs h2 hb ha (by omega) (by omega) k1 k2 k3 k4
    refine fn_le (Bs := [T.Tr D L ts a b 16777216, T.c (.int .u16 (mu : Int))]) ?_ ⟨tr_mono (by omega), .refl _, trivial⟩
    have hN := hB N (Nat.le_refl _)
    cases res with
    | none => exact l13_ap_e hmu (by decide) (fn_out hP jr_out0)
    | some p =>
      have hp : p = (dd N, ll N) := by
        rcases k4 with ⟨_, e⟩ | ⟨_, _, e⟩ | ⟨i, m, _, _, e⟩
        · exact Option.some.inj e
        · exact Option.some.inj e
        · cases e
      subst hp
      exact l13_ap_ok hmu (by decide) (by omega) (by omega) (fun i hi => len_at hN.2.2 (by omega) hi) (fun i hi => len_at hN.1.2 (by omega) hi) (trace_apt k1 k2 k3 N (Nat.le_refl _)) (fn_out hP jr_out)
  · exact l13_ap_e hmu (by decide) (sp_Jobs_e (by decide) (t_Valid_no (by omega) hLl hDl htl hV))
end Go.Proofs.Ytekghdfbhbhigaa.V
