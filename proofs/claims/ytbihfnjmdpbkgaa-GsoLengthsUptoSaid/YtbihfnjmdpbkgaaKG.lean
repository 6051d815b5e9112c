/- The squared length of a sum of rows. -/
import Derived.Test.YtbihfnjmdpbkgaaKF
import Derived.Test.YtbihfnjmdpbkgaaGn
set_option linter.unusedVariables false
set_option linter.unusedSimpArgs false
set_option maxRecDepth 100000
namespace Go.Proofs.Ytbihfnjmdpbkgaa.V
open Go.RowKit Mt Nml
theorem cells_zl {k : Nat} {u : World} : ∀ {l : List Int} {cs : List Value}, Cells B0 u (l.map (cZi k).X) cs → ∀ z ∈ l, zl z ≤ k
  | [], _, _, z, h => by cases h
  | a :: r, cs, ⟨v, rest, _, ⟨i, ⟨k1, k2, k3⟩, _⟩, _, h2⟩, z, h => by
    rcases List.mem_cons.1 h with rfl | h
    · obtain ⟨M, hM⟩ := Int.eq_ofNat_of_zero_le (val_nonneg k1)
      rw [k2, hM]
      exact z_bd (s := i.1) k1 hM k3
    · exact cells_zl h2 z h
theorem zl_zero : zl 0 = 0 := by unfold zl; exact lim_zero
theorem getD_zl {l : List Int} {k : Nat} (h : ∀ z ∈ l, zl z ≤ k) (j : Nat) : zl (l.getD j 0) ≤ k := by
  rw [List.getD_eq_getElem?_getD]
  cases hj : l[j]? with
  | none => rw [show (none : Option Int).getD 0 = 0 from rfl, zl_zero]; omega
  | some z => exact h z (List.mem_of_getElem? hj)
theorem l_zl {k : Nat} {β : Env} {u : World} {l : List Int} {v : Value} (h : (T.l (cZi k) l).rep β u v) : ∀ z ∈ l, zl z ≤ k := fun z hz => by
  obtain ⟨A, n, q, _, h1, _, _, h4⟩ := h
  have hp : 0 < n := by rw [← h1]; exact List.length_pos_of_mem hz
  obtain ⟨ad, _, xs, h5, _⟩ := h4 hp
  exact cells_zl h5 z hz
theorem cells_ll {k : Nat} {u : World} : ∀ {l : List (List Int)} {cs : List Value}, Cells B0 u (l.map (cL (cZi k)).X) cs → ∀ r ∈ l, ∀ z ∈ r, zl z ≤ k
  | [], _, _, r, h => by cases h
  | a :: s, cs, ⟨v, rest, _, h1, _, h2⟩, r, h => by
    rcases List.mem_cons.1 h with rfl | h
    · exact l_zl (k := k) h1
    · exact cells_ll h2 r h
theorem ll_zl {k : Nat} {β : Env} {u : World} {l : List (List Int)} {v : Value} (h : (T.l (cL (cZi k)) l).rep β u v) (i j : Nat) : zl ((l.getD j []).getD i 0) ≤ k := by
  rw [List.getD_eq_getElem?_getD (l := l)]
  cases hj : l[j]? with
  | none => rw [show ((none : Option (List Int)).getD []).getD i 0 = 0 from rfl, zl_zero]; omega
  | some r =>
    obtain ⟨A, n, q, _, h1, _, _, h4⟩ := h
    have hr := List.mem_of_getElem? hj
    have hp : 0 < n := by rw [← h1]; exact List.length_pos_of_mem hr
    obtain ⟨ad, _, xs, h5, _⟩ := h4 hp
    exact getD_zl (cells_ll h5 r hr) i
section
variable {P : Program} {x : Code} {Q : Exit → Act → World → Prop} {ctx : Ctx} {n : Nat} {g : List (Nat × T)} {E : List (Nat × Option Ent)}
theorem tri_lz (t : Nat) {l : List Int} {k : Nat} (ht : lk g t = some (T.l (cZi k) l)) (h : (∀ j, zl (l.getD j 0) ≤ k) → Tri P x Q ctx n g E) : Tri P x Q ctx n g E := fun a w hS => by
  have hS' := hS
  obtain ⟨β, u, F, h1, h2, h3, _⟩ := hS'
  obtain ⟨v, _, hr⟩ := h3 t _ ht
  exact h (getD_zl (l_zl hr)) a w hS
theorem tri_g (t : Nat) {D : List Int} {L : List (List Int)} {k : Nat} (ht : lk g t = some (T.G D L k)) (h : (∀ j, zl (D.getD j 0) ≤ k) → (∀ i j, zl ((L.getD j []).getD i 0) ≤ k) → Tri P x Q ctx n g E) : Tri P x Q ctx n g E := fun a w hS => by
  have hS' := hS
  obtain ⟨β, u, F, h1, h2, h3, _⟩ := hS'
  obtain ⟨v, _, cs, _, v0, r0, _, a0, _, v1, r1, _, a1, _⟩ := h3 t _ ht
  exact h (getD_zl (l_zl a0)) (ll_zl a1) a w hS
end
theorem q_qb {q q' : Rat} {k k' : Nat} (e : q = q') (h : QB q' k') : (T.Q q k).le (T.Q q' k') := by
  subst e
  exact st_le (l := [T.Z q.num k, T.Z (q.den : Int) k]) (l' := [T.Z q.num k', T.Z (q.den : Int) k']) ⟨z_as h.1, z_as h.2, trivial⟩
theorem QB.mono {q : Rat} {k k' : Nat} (h : QB q k) (hk : k ≤ k') : QB q k' := ⟨Nat.le_trans h.1 hk, Nat.le_trans h.2 hk⟩
theorem mul_swap (l d x : Int) : ((l : Int) : Rat) / ((d : Int) : Rat) * ((x : Int) : Rat) = ((x * l : Int) : Rat) / ((d : Int) : Rat) := by
  rw [Rat.intCast_mul, Rat.div_def, Rat.div_def]; grind

theorem g_Norm {D : List Int} {L : List (List Int)} {x : List Int} {k SB : Nat} (hk : k ≤ 1048576) (hG : GoodP D L) (hxl : x.length = L.length) (hn : L.length ≤ 2048) (hSB : L.length * (k + k + 1) + (2 * (k + k + L.length) + 1) ≤ SB) (hSB2 : SB ≤ 8589934592) (hSB0 : 4 ≤ SB) : Fn Try.prog 66 [T.G D L k, T.l (cZi k) x] [] [] [] (T.tup [T.Q (sU D L x L.length L.length) SB, T.c (.int .i64 0)]) := by
  refine fn_of Try.func66 rfl (by show 2 ≤ 100; decide) fun cx hcx => ?_
  refine tri_sub (sl 0 rfl (sl 1 rfl sn)) en ?_
  have hk0 : k ≤ 1073741824 := by omega
  have hLl0 : L.length ≤ 1048576 := by omega
  have hDL := hG.2.1
  refine tri_lz 1 rfl fun hxz => ?_
  refine tri_g 0 rfl fun hDz hLz => ?_
  refine tri_seq ?_
  refine tri_reg mixed hcx ?_ _ _
  refine bxs 10 rfl ?_
  refine nw 11 zeQ ?_
  refine asg rfl ?_
  refine ⟨by kernel_rfl, ?_⟩
  refine nx (sl 1 rfl (sl 2 rfl (sl 4 rfl sn))) (el 10 rfl (el 11 rfl en)) ?_
  refine tri_seq ?_
  refine tri_seq ?_
  refine tri_reg mixed hcx ?_ _ _
  refine ld rfl rfl tyG rfl ?_
  refine ca rfl (h := g_good (q := true) ⟨fun _ => hG, fun _ => rfl⟩ (by omega) (by omega) (by omega)) (hn := ?_)
  refine nt rfl _ rfl ?_
  refine ⟨by kernel_rfl, ?_⟩
  refine nx (sl 1 rfl (sl 2 rfl (sl 4 rfl (sl 16 rfl sn)))) (el 10 rfl (el 11 rfl en)) ?_
  refine tri_false rfl rfl ?_
  refine tri_skip ?_
  refine nx (sl 1 rfl (sl 2 rfl (sl 4 rfl sn))) (el 10 rfl (el 11 rfl en)) ?_
  refine tri_seq ?_
  refine tri_seq ?_
  refine tri_reg mixed hcx ?_ _ _
  refine mv rfl ?_
  refine ln slZs rfl ?_
  refine fa rfl fL 1 ?_
  refine ld rfl rfl tyZss rfl ?_
  refine ln slZss rfl ?_
  refine cne rfl rfl (decide_eq_false (by omega)) ?_
  refine ⟨by kernel_rfl, ?_⟩
  refine nx (sl 1 rfl (sl 2 rfl (sl 4 rfl (sl 23 rfl sn)))) (el 10 rfl (el 11 rfl en)) ?_
  refine tri_false rfl rfl ?_
  refine tri_skip ?_
  refine nx (sl 1 rfl (sl 2 rfl (sl 4 rfl sn))) (el 10 rfl (el 11 rfl en)) ?_
  refine tri_seq ?_
  refine tri_reg mixed hcx ?_ _ _
  refine ca rfl (h := zi_Of (by omega) (by omega)) (hn := ?_)
  refine ca rfl (h := rat_Of (by omega)) (hn := ?_)
  refine nw 512 zeQ ?_
  refine st rfl rfl rfl tyQ rfl ?_
  refine ⟨by kernel_rfl, ?_⟩
  refine nx (sl 1 rfl (sl 2 rfl (sl 4 rfl (sl 6 rfl sn)))) (el 10 rfl (el 11 rfl (el 512 rfl en))) ?_
  refine tri_seq ?_
  refine tri_seq ?_
  refine tri_reg mixed hcx ?_ _ _
  refine mv rfl ?_
  refine ln slZs rfl ?_
  refine mv rfl ?_
  refine ⟨by kernel_rfl, ?_⟩
  refine nx (sl 1 rfl (sl 2 rfl (sl 4 rfl (sl 6 rfl (sl 28 rfl (sl 29 rfl sn)))))) (el 10 rfl (el 11 rfl (el 512 rfl en))) ?_
  refine tri_block ?_
  refine tri_loop (ι := Nat) (fun i => [(1, T.l (cZi k) x), (2, T.p 10 0), (4, T.p 11 0), (6, T.p 512 0), (28, T.c (.int .i64 (x.length : Int))), (29, T.c (.int .i64 (i : Int)))]) (fun i => [(10, some (Ent.box 26 [T.l (cZi k) D, T.l (cL (cZi k)) L])), (11, some (Ent.box 46 [T.c (.bool false), T.c (.slice none 0 0), T.c (.bool false), T.c (.slice none 0 0)])), (512, some (Ent.box 46 [T.Q (sU D L x L.length i) (SB)]))]) (fun i => x.length - i) (fun i => (i ≤ L.length)) 0 (Nat.zero_le _) (sl 1 rfl (sl 2 rfl (sl 4 rfl (sl 6 rfl (sl 28 rfl (sl 29 rfl sn)))))) (el 10 rfl (el 11 rfl (ew 512 rfl (box_pack1 (q_eq (by rfl) (by omega))) en))) ?_
  rintro i hi
  refine tri_sub (sl 1 rfl (sl 2 rfl (sl 4 rfl (sl 6 rfl (sl 28 rfl (sl 29 rfl sn)))))) (el 10 rfl (el 11 rfl (el 512 rfl en))) ?_
  refine tri_seq ?_
  refine tri_reg mixed hcx ?_ _ _
  refine clt rfl rfl rfl ?_
  refine ⟨by kernel_rfl, ?_⟩
  refine nx (sl 1 rfl (sl 2 rfl (sl 4 rfl (sl 6 rfl (sl 28 rfl (sl 29 rfl (sl 30 rfl sn))))))) (el 10 rfl (el 11 rfl (el 512 rfl en))) ?_
  refine tri_seq ?_
  refine tri_if rfl (fun hc => ?_) (fun hc => ?_)
  · have hne : D.getD (i + 1) (cZi k).dflt ≠ 0 := Int.ne_of_gt (hG.pos (by omega))
    have hyq := fun t => y_QB (t := t) hxz (hDz (i + 1)) (hLz i) hne
    have hsq := s_QB (n := L.length) (i := i + 1) hxz hLz (fun j _ => hDz j) (fun j hj => Int.ne_of_gt (hG.pos (by omega)))
    have hsb : (i + 1) * (k + k + 1) + (2 * (k + k + L.length) + 1) ≤ SB := Nat.le_trans (Nat.add_le_add_right (Nat.mul_le_mul_right _ (by omega)) _) hSB
    refine tri_skip ?_
    refine nx (sl 1 rfl (sl 2 rfl (sl 4 rfl (sl 6 rfl (sl 28 rfl (sl 29 rfl sn)))))) (el 10 rfl (el 11 rfl (el 512 rfl en))) ?_
    refine tri_seq ?_
    refine tri_block ?_
    refine tri_seq ?_
    refine tri_reg mixed hcx ?_ _ _
    refine mv rfl ?_
    refine asg rfl ?_
    refine ⟨by kernel_rfl, ?_⟩
    refine nx (sl 1 rfl (sl 2 rfl (sl 4 rfl (sl 6 rfl (sl 7 rfl (sl 28 rfl (sl 29 rfl sn))))))) (el 10 rfl (el 11 rfl (el 512 rfl en))) ?_
    refine tri_seq ?_
    refine tri_reg mixed hcx ?_ _ _
    refine mv rfl ?_
    refine mv rfl ?_
    refine ix rfl rfl slZs ⟨rfl, by omega⟩ ?_
    refine lf rfl tyZ ?_
    refine ca rfl (h := rat_Of (by omega)) (hn := ?_)
    refine nw 915 zeQ ?_
    refine st rfl rfl rfl tyQ rfl ?_
    refine ⟨by kernel_rfl, ?_⟩
    refine nx (sl 1 rfl (sl 2 rfl (sl 4 rfl (sl 6 rfl (sl 7 rfl (sl 8 rfl (sl 28 rfl (sl 29 rfl sn)))))))) (el 10 rfl (el 11 rfl (el 512 rfl (el 915 rfl en)))) ?_
    refine tri_seq ?_
    refine tri_seq ?_
    refine tri_reg mixed hcx ?_ _ _
    refine mv rfl ?_
    refine ad (((i + 1 : Nat) : Int)) rfl rfl rfl (by omega) ?_
    refine asg rfl ?_
    refine ⟨by kernel_rfl, ?_⟩
    refine nx (sl 1 rfl (sl 2 rfl (sl 4 rfl (sl 6 rfl (sl 7 rfl (sl 8 rfl (sl 9 rfl (sl 28 rfl (sl 29 rfl sn))))))))) (el 10 rfl (el 11 rfl (el 512 rfl (el 915 rfl en)))) ?_
    refine tri_block ?_
    refine tri_loop (ι := Nat) (fun t => [(1, T.l (cZi k) x), (2, T.p 10 0), (4, T.p 11 0), (6, T.p 512 0), (7, T.c (.int .i64 (i : Int))), (8, T.p 915 0), (9, T.c (.int .i64 ((i + 1 + t : Nat) : Int))), (28, T.c (.int .i64 (x.length : Int))), (29, T.c (.int .i64 (i : Int)))]) (fun t => [(10, some (Ent.box 26 [T.l (cZi k) D, T.l (cL (cZi k)) L])), (11, some (Ent.box 46 [T.c (.bool false), T.c (.slice none 0 0), T.c (.bool false), T.c (.slice none 0 0)])), (512, some (Ent.box 46 [T.Q (sU D L x L.length i) (SB)])), (915, some (Ent.box 46 [T.Q (yU D L x i t) (k + k + L.length + 2)]))]) (fun t => x.length - t) (fun t => (i + 1 + t ≤ L.length)) 0 (by omega) (sl 1 rfl (sl 2 rfl (sl 4 rfl (sl 6 rfl (sl 7 rfl (sl 8 rfl (sw 9 rfl (ci (by omega)) (sl 28 rfl (sl 29 rfl sn))))))))) (el 10 rfl (el 11 rfl (el 512 rfl (ew 915 rfl (box_pack1 (q_eq rfl (by omega))) en)))) ?_
    rintro t ht
    refine tri_sub (sl 1 rfl (sl 2 rfl (sl 4 rfl (sl 6 rfl (sl 7 rfl (sl 8 rfl (sl 9 rfl (sl 28 rfl (sl 29 rfl sn))))))))) (el 10 rfl (el 11 rfl (el 512 rfl (el 915 rfl en)))) ?_
    refine tri_seq ?_
    refine tri_seq ?_
    refine tri_reg mixed hcx ?_ _ _
    refine mv rfl ?_
    refine mv rfl ?_
    refine ln slZs rfl ?_
    refine clt rfl rfl rfl ?_
    refine ⟨by kernel_rfl, ?_⟩
    refine nx (sl 1 rfl (sl 2 rfl (sl 4 rfl (sl 6 rfl (sl 7 rfl (sl 8 rfl (sl 9 rfl (sl 28 rfl (sl 29 rfl (sl 42 rfl sn)))))))))) (el 10 rfl (el 11 rfl (el 512 rfl (el 915 rfl en)))) ?_
    refine tri_if rfl (fun hd => ?_) (fun hd => ?_)
    · have hLj : (L.getD (i + 1 + t) (cL (cZi k)).dflt).length = i + 1 + t := (hG.2.2.2 (i + 1 + t) (by omega)).1
      refine tri_skip ?_
      refine nx (sl 1 rfl (sl 2 rfl (sl 4 rfl (sl 6 rfl (sl 7 rfl (sl 8 rfl (sl 9 rfl (sl 28 rfl (sl 29 rfl sn))))))))) (el 10 rfl (el 11 rfl (el 512 rfl (el 915 rfl en)))) ?_
      refine tri_seq ?_
      refine tri_block ?_
      refine tri_seq ?_
      refine tri_reg mixed hcx ?_ _ _
      refine mv rfl ?_
      refine mv rfl ?_
      refine ix rfl rfl slZs ⟨rfl, by omega⟩ ?_
      refine lf rfl tyZ ?_
      refine fa rfl fL 1 ?_
      refine ld rfl rfl tyZss rfl ?_
      refine mv rfl ?_
      refine ix rfl rfl slZss ⟨rfl, by omega⟩ ?_
      refine lf rfl tyZs ?_
      refine mv rfl ?_
      refine ix rfl rfl slZs ⟨rfl, by omega⟩ ?_
      refine lf rfl tyZ ?_
      refine ca rfl (h := zi_Mul (by omega) (by omega)) (hn := ?_)
      refine fa rfl fD 0 ?_
      refine ld rfl rfl tyZs rfl ?_
      refine mv rfl ?_
      refine ad (((i + 1 : Nat) : Int)) rfl rfl rfl (by omega) ?_
      refine ix rfl rfl slZs ⟨rfl, by omega⟩ ?_
      refine lf rfl tyZ ?_
      refine ca rfl (h := rat_Make hne (by omega) (by omega)) (hn := ?_)
      refine mv rfl ?_
      refine ex rfl rfl ?_
      refine ex rfl rfl ?_
      refine nw 1333 zeQ ?_
      refine st rfl rfl rfl tyQ rfl ?_
      refine asg rfl ?_
      refine ⟨by kernel_rfl, ?_⟩
      refine nx (sl 1 rfl (sl 2 rfl (sl 4 rfl (sl 6 rfl (sl 7 rfl (sl 8 rfl (sl 9 rfl (sl 10 rfl (sl 28 rfl (sl 29 rfl sn)))))))))) (el 10 rfl (el 11 rfl (el 512 rfl (el 915 rfl (el 1333 rfl en))))) ?_
      refine tri_reg mixed hcx ?_ _ _
      refine ld rfl rfl tyQ rfl ?_
      refine ld rfl rfl tyQ rfl ?_
      refine ca rfl (h := rat_Add (by omega) (by omega)) (hn := ?_)
      refine mv rfl ?_
      refine ex rfl rfl ?_
      refine ex rfl rfl ?_
      refine st rfl rfl rfl tyQ rfl ?_
      refine ⟨by kernel_rfl, ?_⟩
      refine pn_blk ?_
      refine nx (sl 1 rfl (sl 2 rfl (sl 4 rfl (sl 6 rfl (sl 7 rfl (sl 8 rfl (sl 9 rfl (sl 28 rfl (sl 29 rfl sn))))))))) (el 10 rfl (el 11 rfl (el 512 rfl (el 915 rfl (el 1333 rfl en))))) ?_
      refine tri_reg mixed hcx ?_ _ _
      refine mv rfl ?_
      refine ad (((i + 1 + (t + 1) : Nat) : Int)) rfl rfl rfl (by omega) ?_
      refine asg rfl ?_
      refine ⟨by kernel_rfl, ?_⟩
      exact pn_back (t + 1) (by first | omega | (dsimp only; omega)) (by omega) (sl 1 rfl (sl 2 rfl (sl 4 rfl (sl 6 rfl (sl 7 rfl (sl 8 rfl (sw 9 rfl (ci (by omega)) (sl 28 rfl (sl 29 rfl sn))))))))) (el 10 rfl (el 11 rfl (el 512 rfl (ew 915 rfl (box_pack1 (q_qb rfl (QB.mono (hyq (t + 1)) (by omega)))) en))))
    · refine tri_exit ?_
      repeat (first | refine pn_then ?_ | refine pn_oth (by decide) ?_)
      refine pn_ex ?_
      have ht2 : t = L.length - (i + 1) := by omega
      refine nx (sl 1 rfl (sl 2 rfl (sl 4 rfl (sl 6 rfl (sl 7 rfl (sl 8 rfl (sl 28 rfl (sl 29 rfl sn)))))))) (el 10 rfl (el 11 rfl (el 512 rfl (el 915 rfl en)))) ?_
      refine tri_seq ?_
      refine tri_reg mixed hcx ?_ _ _
      refine ld rfl rfl tyG rfl ?_
      refine mv rfl ?_
      refine ca rfl (h := g_Star hk0 hLl0 hG (show i < L.length by omega)) (hn := ?_)
      refine mv rfl ?_
      refine ex rfl rfl ?_
      refine ex rfl rfl ?_
      refine nw 1516 zeQ ?_
      refine st rfl rfl rfl tyQ rfl ?_
      refine asg rfl ?_
      refine ⟨by kernel_rfl, ?_⟩
      refine nx (sl 1 rfl (sl 2 rfl (sl 4 rfl (sl 6 rfl (sl 8 rfl (sl 12 rfl (sl 28 rfl (sl 29 rfl sn)))))))) (el 10 rfl (el 11 rfl (el 512 rfl (el 915 rfl (el 1516 rfl en))))) ?_
      refine tri_seq ?_
      refine tri_reg mixed hcx ?_ _ _
      refine ld rfl rfl tyQ rfl ?_
      refine ld rfl rfl tyQ rfl ?_
      refine ca rfl (h := rat_Mul (by omega) (by omega)) (hn := ?_)
      refine mv rfl ?_
      refine ex rfl rfl ?_
      refine ex rfl rfl ?_
      refine st rfl rfl rfl tyQ rfl ?_
      refine ⟨by kernel_rfl, ?_⟩
      refine nx (sl 1 rfl (sl 2 rfl (sl 4 rfl (sl 6 rfl (sl 8 rfl (sl 12 rfl (sl 28 rfl (sl 29 rfl sn)))))))) (el 10 rfl (el 11 rfl (el 512 rfl (el 915 rfl (el 1516 rfl en))))) ?_
      refine tri_seq ?_
      refine tri_reg mixed hcx ?_ _ _
      refine ld rfl rfl tyQ rfl ?_
      refine ld rfl rfl tyQ rfl ?_
      refine ca rfl (h := rat_Mul (by omega) (by omega)) (hn := ?_)
      refine mv rfl ?_
      refine ex rfl rfl ?_
      refine ex rfl rfl ?_
      refine st rfl rfl rfl tyQ rfl ?_
      refine ⟨by kernel_rfl, ?_⟩
      refine nx (sl 1 rfl (sl 2 rfl (sl 4 rfl (sl 6 rfl (sl 8 rfl (sl 28 rfl (sl 29 rfl sn))))))) (el 10 rfl (el 11 rfl (el 512 rfl (el 915 rfl (el 1516 rfl en))))) ?_
      refine tri_reg mixed hcx ?_ _ _
      refine ld rfl rfl tyQ rfl ?_
      refine ld rfl rfl tyQ rfl ?_
      refine ca rfl (h := rat_Add (by omega) (by omega)) (hn := ?_)
      refine mv rfl ?_
      refine ex rfl rfl ?_
      refine ex rfl rfl ?_
      refine st rfl rfl rfl tyQ rfl ?_
      refine ⟨by kernel_rfl, ?_⟩
      refine pn_blk ?_
      refine nx (sl 1 rfl (sl 2 rfl (sl 4 rfl (sl 6 rfl (sl 28 rfl (sl 29 rfl sn)))))) (el 10 rfl (el 11 rfl (el 512 rfl (el 915 rfl (el 1516 rfl en))))) ?_
      refine tri_reg mixed hcx ?_ _ _
      refine ad (((i + 1 : Nat) : Int)) rfl rfl rfl (by omega) ?_
      refine mv rfl ?_
      refine ⟨by kernel_rfl, ?_⟩
      exact pn_back (i + 1) (by first | omega | (dsimp only; omega)) (by omega) (sl 1 rfl (sl 2 rfl (sl 4 rfl (sl 6 rfl (sl 28 rfl (sl 29 rfl sn)))))) (el 10 rfl (el 11 rfl (ew 512 rfl (box_pack1 (q_qb (by rw [ht2]; rfl) (QB.mono hsq hsb))) en)))
  · refine tri_exit ?_
    repeat (first | refine pn_then ?_ | refine pn_oth (by decide) ?_)
    refine pn_ex ?_
    obtain rfl : i = L.length := by omega
    refine nx (sl 4 rfl (sl 6 rfl sn)) (el 10 rfl (el 11 rfl (el 512 rfl en))) ?_
    refine tri_seq ?_
    refine tri_reg mixed hcx ?_ _ _
    refine ld rfl rfl tyQ rfl ?_
    refine st rfl rfl rfl tyQ rfl ?_
    refine asg rfl ?_
    refine ⟨by kernel_rfl, ?_⟩
    refine nx (sl 4 rfl (sl 5 rfl sn)) (el 10 rfl (el 11 rfl (el 512 rfl en))) ?_
    refine tri_ret ?_
    repeat (first | refine pn_thenr ?_ | refine pn_blkr ?_)
    exact ret2 hcx rfl (rv_cell (c' := cx) (n := 0) rfl rfl tyQ rfl) (rv_tmp rfl) (.refl _) en

theorem r05_Norm {D : List Int} {L : List (List Int)} {x : List Int} {k SB : Nat} (hk : k ≤ 1048576) (hG : GoodP D L) (hxl : x.length = L.length) (hn : L.length ≤ 2048) (hSB : L.length * (k + k + 1) + (2 * (k + k + L.length) + 1) ≤ SB) (hSB2 : SB ≤ 8589934592) (hSB0 : 4 ≤ SB) : Fn Try.prog 67 [T.G D L k, T.l (cZi k) x] [] [] [] (T.Q (sU D L x L.length L.length) SB) := by
  refine fn_of Try.func67 rfl (by show 2 ≤ 50; decide) fun cx hcx => ?_
  refine tri_sub (sl 0 rfl (sl 1 rfl sn)) en ?_
  have hk0 : k ≤ 1073741824 := by omega
  have hLl0 : L.length ≤ 1048576 := by omega
  have hDL := hG.2.1
  refine tri_lz 1 rfl fun hxz => ?_
  refine tri_g 0 rfl fun hDz hLz => ?_
  refine tri_seq ?_
  refine tri_reg mixed hcx ?_ _ _
  refine bxs 10 rfl ?_
  refine nw 11 zeQ ?_
  refine ⟨by kernel_rfl, ?_⟩
  refine nx (sl 1 rfl (sl 2 rfl (sl 4 rfl sn))) (el 10 rfl (el 11 rfl en)) ?_
  refine tri_seq ?_
  refine tri_reg mixed hcx ?_ _ _
  refine nw 110 zeQ ?_
  refine ⟨by kernel_rfl, ?_⟩
  refine nx (sl 1 rfl (sl 2 rfl (sl 4 rfl (sl 5 rfl sn)))) (el 10 rfl (el 11 rfl (el 110 rfl en))) ?_
  refine tri_seq ?_
  refine tri_reg mixed hcx ?_ _ _
  refine bu stZ rfl ?_
  refine ca rfl (h := r03_Of (by omega)) (hn := ?_)
  refine st rfl rfl rfl tyQ rfl ?_
  refine ⟨by kernel_rfl, ?_⟩
  refine nx (sl 1 rfl (sl 2 rfl (sl 4 rfl (sl 5 rfl sn)))) (el 10 rfl (el 11 rfl (el 110 rfl en))) ?_
  refine tri_seq ?_
  refine tri_seq ?_
  refine tri_reg mixed hcx ?_ _ _
  refine asg rfl ?_
  refine ⟨by kernel_rfl, ?_⟩
  refine nx (sl 1 rfl (sl 2 rfl (sl 4 rfl (sl 5 rfl (sl 6 rfl sn))))) (el 10 rfl (el 11 rfl (el 110 rfl en))) ?_
  refine tri_block ?_
  refine tri_loop (ι := Nat) (fun i => [(1, T.l (cZi k) x), (2, T.p 10 0), (4, T.p 11 0), (5, T.p 110 0), (6, T.c (.int .i64 (i : Int)))]) (fun i => [(10, some (Ent.box 26 [T.l (cZi k) D, T.l (cL (cZi k)) L])), (11, some (Ent.box 46 [T.c (.bool false), T.c (.slice none 0 0), T.c (.bool false), T.c (.slice none 0 0)])), (110, some (Ent.box 46 [T.Q (sU D L x L.length i) (SB)]))]) (fun i => x.length - i) (fun i => (i ≤ L.length)) 0 (Nat.zero_le _) (sl 1 rfl (sl 2 rfl (sl 4 rfl (sl 5 rfl (sl 6 rfl sn))))) (el 10 rfl (el 11 rfl (ew 110 rfl (box_pack1 (q_eq (by rfl) (by omega))) en))) ?_
  rintro i hi
  refine tri_sub (sl 1 rfl (sl 2 rfl (sl 4 rfl (sl 5 rfl (sl 6 rfl sn))))) (el 10 rfl (el 11 rfl (el 110 rfl en))) ?_
  refine tri_seq ?_
  refine tri_seq ?_
  refine tri_reg mixed hcx ?_ _ _
  refine mv rfl ?_
  refine mv rfl ?_
  refine ln slZs rfl ?_
  refine clt rfl rfl rfl ?_
  refine ⟨by kernel_rfl, ?_⟩
  refine nx (sl 1 rfl (sl 2 rfl (sl 4 rfl (sl 5 rfl (sl 6 rfl (sl 14 rfl sn)))))) (el 10 rfl (el 11 rfl (el 110 rfl en))) ?_
  refine tri_if rfl (fun hc => ?_) (fun hc => ?_)
  · have hne : D.getD (i + 1) (cZi k).dflt ≠ 0 := Int.ne_of_gt (hG.pos (by omega))
    have hyq := fun t => y_QB (t := t) hxz (hDz (i + 1)) (hLz i) hne
    have hsq := s_QB (n := L.length) (i := i + 1) hxz hLz (fun j _ => hDz j) (fun j hj => Int.ne_of_gt (hG.pos (by omega)))
    have hsb : (i + 1) * (k + k + 1) + (2 * (k + k + L.length) + 1) ≤ SB := Nat.le_trans (Nat.add_le_add_right (Nat.mul_le_mul_right _ (by omega)) _) hSB
    refine tri_skip ?_
    refine nx (sl 1 rfl (sl 2 rfl (sl 4 rfl (sl 5 rfl (sl 6 rfl sn))))) (el 10 rfl (el 11 rfl (el 110 rfl en))) ?_
    refine tri_seq ?_
    refine tri_block ?_
    refine tri_seq ?_
    refine tri_reg mixed hcx ?_ _ _
    refine mv rfl ?_
    refine mv rfl ?_
    refine ix rfl rfl slZs ⟨rfl, by omega⟩ ?_
    refine lf rfl tyZ ?_
    refine ca rfl (h := r03_Of (by omega)) (hn := ?_)
    refine nw 615 zeQ ?_
    refine st rfl rfl rfl tyQ rfl ?_
    refine ⟨by kernel_rfl, ?_⟩
    refine nx (sl 1 rfl (sl 2 rfl (sl 4 rfl (sl 5 rfl (sl 6 rfl (sl 7 rfl sn)))))) (el 10 rfl (el 11 rfl (el 110 rfl (el 615 rfl en)))) ?_
    refine tri_seq ?_
    refine tri_seq ?_
    refine tri_reg mixed hcx ?_ _ _
    refine mv rfl ?_
    refine ad (((i + 1 : Nat) : Int)) rfl rfl rfl (by omega) ?_
    refine asg rfl ?_
    refine ⟨by kernel_rfl, ?_⟩
    refine nx (sl 1 rfl (sl 2 rfl (sl 4 rfl (sl 5 rfl (sl 6 rfl (sl 7 rfl (sl 8 rfl sn))))))) (el 10 rfl (el 11 rfl (el 110 rfl (el 615 rfl en)))) ?_
    refine tri_block ?_
    refine tri_loop (ι := Nat) (fun t => [(1, T.l (cZi k) x), (2, T.p 10 0), (4, T.p 11 0), (5, T.p 110 0), (6, T.c (.int .i64 (i : Int))), (7, T.p 615 0), (8, T.c (.int .i64 ((i + 1 + t : Nat) : Int)))]) (fun t => [(10, some (Ent.box 26 [T.l (cZi k) D, T.l (cL (cZi k)) L])), (11, some (Ent.box 46 [T.c (.bool false), T.c (.slice none 0 0), T.c (.bool false), T.c (.slice none 0 0)])), (110, some (Ent.box 46 [T.Q (sU D L x L.length i) (SB)])), (615, some (Ent.box 46 [T.Q (yU D L x i t) (k + k + L.length + 2)]))]) (fun t => x.length - t) (fun t => (i + 1 + t ≤ L.length)) 0 (by omega) (sl 1 rfl (sl 2 rfl (sl 4 rfl (sl 5 rfl (sl 6 rfl (sl 7 rfl (sw 8 rfl (ci (by omega)) sn))))))) (el 10 rfl (el 11 rfl (el 110 rfl (ew 615 rfl (box_pack1 (q_eq rfl (by omega))) en)))) ?_
    rintro t ht
    refine tri_sub (sl 1 rfl (sl 2 rfl (sl 4 rfl (sl 5 rfl (sl 6 rfl (sl 7 rfl (sl 8 rfl sn))))))) (el 10 rfl (el 11 rfl (el 110 rfl (el 615 rfl en)))) ?_
    refine tri_seq ?_
    refine tri_seq ?_
    refine tri_reg mixed hcx ?_ _ _
    refine mv rfl ?_
    refine mv rfl ?_
    refine ln slZs rfl ?_
    refine clt rfl rfl rfl ?_
    refine ⟨by kernel_rfl, ?_⟩
    refine nx (sl 1 rfl (sl 2 rfl (sl 4 rfl (sl 5 rfl (sl 6 rfl (sl 7 rfl (sl 8 rfl (sl 27 rfl sn)))))))) (el 10 rfl (el 11 rfl (el 110 rfl (el 615 rfl en)))) ?_
    refine tri_if rfl (fun hd => ?_) (fun hd => ?_)
    · refine tri_skip ?_
      refine nx (sl 1 rfl (sl 2 rfl (sl 4 rfl (sl 5 rfl (sl 6 rfl (sl 7 rfl (sl 8 rfl sn))))))) (el 10 rfl (el 11 rfl (el 110 rfl (el 615 rfl en)))) ?_
      refine tri_seq ?_
      refine tri_block ?_
      refine tri_reg mixed hcx ?_ _ _
      refine ld rfl rfl tyQ rfl ?_
      refine ld rfl rfl tyG rfl ?_
      refine mv rfl ?_
      refine mv rfl ?_
      refine ca rfl (h := r05_Mu hk0 hLl0 hG (show i + 1 + t < L.length by omega) (show i < i + 1 + t by omega)) (hn := ?_)
      refine mv rfl ?_
      refine mv rfl ?_
      refine ix rfl rfl slZs ⟨rfl, by omega⟩ ?_
      refine lf rfl tyZ ?_
      refine ca rfl (h := r05_times (by omega) (by omega)) (hn := ?_)
      refine ca rfl (h := r03_Add (by omega) (by omega)) (hn := ?_)
      refine st rfl rfl rfl tyQ rfl ?_
      refine ⟨by kernel_rfl, ?_⟩
      refine pn_blk ?_
      refine nx (sl 1 rfl (sl 2 rfl (sl 4 rfl (sl 5 rfl (sl 6 rfl (sl 7 rfl (sl 8 rfl sn))))))) (el 10 rfl (el 11 rfl (el 110 rfl (el 615 rfl en)))) ?_
      refine tri_reg mixed hcx ?_ _ _
      refine mv rfl ?_
      refine ad (((i + 1 + (t + 1) : Nat) : Int)) rfl rfl rfl (by omega) ?_
      refine asg rfl ?_
      refine ⟨by kernel_rfl, ?_⟩
      exact pn_back (t + 1) (by first | omega | (dsimp only; omega)) (by omega) (sl 1 rfl (sl 2 rfl (sl 4 rfl (sl 5 rfl (sl 6 rfl (sl 7 rfl (sw 8 rfl (ci (by omega)) sn))))))) (el 10 rfl (el 11 rfl (el 110 rfl (ew 615 rfl (box_pack1 (q_qb (by rw [mul_swap]; rfl) (QB.mono (hyq (t + 1)) (by omega)))) en))))
    · refine tri_exit ?_
      repeat (first | refine pn_then ?_ | refine pn_oth (by decide) ?_)
      refine pn_ex ?_
      have ht2 : t = L.length - (i + 1) := by omega
      refine nx (sl 1 rfl (sl 2 rfl (sl 4 rfl (sl 5 rfl (sl 6 rfl (sl 7 rfl sn)))))) (el 10 rfl (el 11 rfl (el 110 rfl (el 615 rfl en)))) ?_
      refine tri_reg mixed hcx ?_ _ _
      refine ld rfl rfl tyQ rfl ?_
      refine ld rfl rfl tyQ rfl ?_
      refine ca rfl (h := r05_square (by omega)) (hn := ?_)
      refine ld rfl rfl tyG rfl ?_
      refine mv rfl ?_
      refine ca rfl (h := r05_Star hk0 hLl0 hG (show i < L.length by omega)) (hn := ?_)
      refine ca rfl (h := r03_Mul (by omega) (by omega)) (hn := ?_)
      refine ca rfl (h := r03_Add (by omega) (by omega)) (hn := ?_)
      refine st rfl rfl rfl tyQ rfl ?_
      refine ⟨by kernel_rfl, ?_⟩
      refine pn_blk ?_
      refine nx (sl 1 rfl (sl 2 rfl (sl 4 rfl (sl 5 rfl (sl 6 rfl sn))))) (el 10 rfl (el 11 rfl (el 110 rfl (el 615 rfl en)))) ?_
      refine tri_reg mixed hcx ?_ _ _
      refine mv rfl ?_
      refine ad (((i + 1 : Nat) : Int)) rfl rfl rfl (by omega) ?_
      refine asg rfl ?_
      refine ⟨by kernel_rfl, ?_⟩
      exact pn_back (i + 1) (by first | omega | (dsimp only; omega)) (by omega) (sl 1 rfl (sl 2 rfl (sl 4 rfl (sl 5 rfl (sl 6 rfl sn))))) (el 10 rfl (el 11 rfl (ew 110 rfl (box_pack1 (q_qb (by rw [ht2]; rfl) (QB.mono hsq hsb))) en)))
  · refine tri_exit ?_
    repeat (first | refine pn_then ?_ | refine pn_oth (by decide) ?_)
    refine pn_ex ?_
    obtain rfl : i = L.length := by omega
    refine nx (sl 4 rfl (sl 5 rfl sn)) (el 10 rfl (el 11 rfl (el 110 rfl en))) ?_
    refine tri_seq ?_
    refine tri_reg mixed hcx ?_ _ _
    refine ld rfl rfl tyQ rfl ?_
    refine st rfl rfl rfl tyQ rfl ?_
    refine ⟨by kernel_rfl, ?_⟩
    refine nx (sl 4 rfl sn) (el 10 rfl (el 11 rfl (el 110 rfl en))) ?_
    refine tri_ret ?_
    repeat (first | refine pn_thenr ?_ | refine pn_blkr ?_)
    exact ret1 hcx rfl (rv_cell (c' := cx) (n := 0) rfl rfl tyQ rfl) (.refl _) en
end Go.Proofs.Ytbihfnjmdpbkgaa.V
