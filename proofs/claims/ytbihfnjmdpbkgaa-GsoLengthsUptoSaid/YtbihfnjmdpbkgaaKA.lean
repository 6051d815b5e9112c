/- The data of rows. -/
import Derived.Test.YtbihfnjmdpbkgaaK9
set_option linter.unusedVariables false
set_option linter.unusedSimpArgs false
set_option maxRecDepth 100000
namespace Go.Proofs.Ytbihfnjmdpbkgaa.V
open Go.RowKit Mt Nml
instance (k : Nat) (z : Int) : IsZ ((cZ k).X z) z k := inferInstanceAs (IsZ (T.Z z k) z k)
instance (k : Nat) (z : Int) : IsZ ((cZi k).X z) z k := inferInstanceAs (IsZ (T.Zi z k) z k)
theorem z_to {z z' : Int} {k k' : Nat} (e : z = z') (h : zl z' ≤ k') : (T.Z z k).le (T.Z z' k') := by subst e; exact z_as h
/-- A row in a box that is written to no more. -/
def RdC (e : Nat) (X' : T) : List T → List T → Prop
  | [], [] => True
  | X :: r, Y :: s => (X = Y ∨ (X = T.o e ∧ Y = X')) ∧ RdC e X' r s
  | _, _ => False
theorem RdC.cells {e : Nat} {X' : T} {β : Env} {u : World} (h0 : X'.sz ≠ 0) (h : ∀ v, v = β e → X'.rep β u v) : ∀ {l l' : List T} {cs : List Value}, RdC e X' l l' → Cells β u l cs → Cells β u l' cs
  | [], [], _, _, h => h
  | X :: r, Y :: s, cs, ⟨k1, k2⟩, ⟨v, rest, h1, h2, he, h3⟩ => by
    rcases k1 with rfl | ⟨rfl, rfl⟩
    · exact ⟨v, rest, h1, h2, he, RdC.cells h0 h k2 h3⟩
    · exact ⟨v, rest, h0, h v h2.1, he, RdC.cells h0 h k2 h3⟩
  | [], _ :: _, _, h, _ => h.elim
  | _ :: _, [], _, h, _ => h.elim
section
variable {P : Program} {x : Code} {Q : Exit → Act → World → Prop} {ctx : Ctx} {n : Nat} {g : List (Nat × T)} {E : List (Nat × Option Ent)}
theorem tri_bz {et : TypeId} {z : Int} {k : Nat} (e : Nat) (hE : lkE E e = some (Ent.box et [T.Z z k])) (h : zl z ≤ k → Tri P x Q ctx n g E) : Tri P x Q ctx n g E := fun a w hS => by
  have hS' := hS
  obtain ⟨β, u, F, h1, h2, h3, h4, _⟩ := hS'
  obtain ⟨b, cs, _, _, _, v, rest, _, ⟨_, hz, _⟩, _⟩ := h4.hold e _ hE
  exact h hz a w hS
theorem tri_rdb {α : Type} {c : Cod α} {l : List α} {et : TypeId} {bl bl' : List T} (f e : Nat) (hE : lkE E e = some (Ent.frz c l)) (hB : lkE E f = some (Ent.box et bl)) (hr : RdC e (T.l c l) bl bl') (h : Tri P x Q ctx n g ((f, some (Ent.box et bl')) :: E)) : Tri P x Q ctx n g E := fun a w hS => h a w (by
  obtain ⟨β, u, F, h1, h2, h3, h4, h5, h6, h7⟩ := hS
  have hlk : ∀ q, lkE ((f, some (Ent.box et bl')) :: E) q = if f = q then some (Ent.box et bl') else lkE E q := fun q => by
    unfold lkE
    rw [lk_cons]
    by_cases h0 : f = q
    · rw [if_pos h0, if_pos h0]; rfl
    · rw [if_neg h0, if_neg h0]
  have old : ∀ q X, lkE ((f, some (Ent.box et bl')) :: E) q = some X → ∃ Y, lkE E q = some Y := fun q X hX => by
    rw [hlk] at hX
    split at hX
    · rename_i h; subst h; exact ⟨_, hB⟩
    · exact ⟨_, hX⟩
  refine ⟨β, u, F, h1, h2, h3, ⟨fun q X hX => ?_, fun q X k hX hk => ?_, fun q p X Y k hX hY hn hk hk' => ?_⟩, h5, fun q X k hX hk => ?_, h7⟩
  · rw [hlk] at hX
    split at hX
    · rename_i hq
      subst hq
      cases hX
      obtain ⟨b, cs, k1, k2, k3, k4⟩ := h4.hold _ _ hB
      have hfz := (h4.hold e _ hE).2
      exact ⟨b, cs, k1, k2, k3, RdC.cells (by show (1 : Nat) ≠ 0; omega) (fun v hv => (T.l c l).ext (β := B0) (fun _ h => by cases h) (by rw [hv]; exact hfz)) hr k4⟩
    · exact h4.hold q X hX
  · obtain ⟨Y, hY⟩ := old q X hX; exact h4.dead q Y k hY hk
  · obtain ⟨X', hX'⟩ := old q X hX
    obtain ⟨Y', hY'⟩ := old p Y hY
    exact h4.apart q p X' Y' k hX' hY' hn hk hk'
  · obtain ⟨Y, hY⟩ := old q X hX; exact h6 q Y k hY hk)
end

theorem g_built {b : List (List Int)} {D0 : List Int} {L0 : List (List Int)} {kb m S K : Nat} (h : bld b b.length = some (D0, L0)) (hbl : b.length ≤ 12) (hm : ∀ i, i < b.length → (b.getD i []).length = m) (hmm : m ≤ 1048576) (hkb : kb ≤ 1048576) (hS : ∀ i j, i < b.length → j ≤ i → zl (dotU (b.getD i []) (b.getD j []) (b.getD i []).length) ≤ S) (hK1 : bd S 12 ≤ K) (hK2 : K ≤ 137438953472) (hK3 : 2 ≤ K) : Fn Try.prog 132 [T.l (cL (cZi kb)) b] [] [] [] (T.tup [T.st [T.l (cZ K) D0, T.l (cL (cZ K)) L0], T.c (.bool true)]) := by
  refine fn_of Try.func132 rfl (by show 1 ≤ 114; decide) fun cx hcx => ?_
  refine tri_sub (sl 0 rfl sn) en ?_
  have hmb : ∀ i, i < b.length → zl (dotU (b.getD i []) (b.getD i []) (b.getD i []).length) ≤ S := fun i hi => hS i i hi (Nat.le_refl _)
  have hSK : S ≤ K := Nat.le_trans (by have := bd_mono (S := S) (Nat.zero_le 12); rwa [bd_zero] at this) hK1
  refine tri_seq ?_
  refine tri_reg mixed hcx ?_ _ _
  refine nw 10 zeG ?_
  refine asg rfl ?_
  refine ⟨by kernel_rfl, ?_⟩
  refine nx (sl 0 rfl (sl 2 rfl sn)) (el 10 rfl en) ?_
  refine tri_seq ?_
  refine tri_reg mixed hcx ?_ _ _
  refine ca rfl (h := zi_Of (by omega) (by omega)) (hn := ?_)
  refine bso (c := cZ K) (xs := [1]) 111 slZs rfl ⟨z_up (by omega), trivial⟩ ?_
  refine bu stG rfl ?_
  refine nw 113 zeG ?_
  refine sts rfl rfl rfl tyG rfl ?_
  refine ⟨by kernel_rfl, ?_⟩
  refine nx (sl 0 rfl (sl 2 rfl (sl 4 rfl sn))) (el 10 rfl (el 111 rfl (el 113 rfl en))) ?_
  refine tri_seq ?_
  refine tri_seq ?_
  refine tri_nilb (cL (cZ K)) 24 (bl := [T.o 111, T.c (.slice none 0 0)]) (bl' := [T.o 111, T.o 9]) 113 9 rfl ⟨.inl ⟨rfl, by show 9 ∉ [111]; decide⟩, .inr ⟨rfl, rfl⟩, trivial⟩ (by rw [hcx]; kernel_rfl) ?_
  refine tri_reg mixed hcx ?_ _ _
  refine mv rfl ?_
  refine ln slZss rfl ?_
  refine mv rfl ?_
  refine ⟨by kernel_rfl, ?_⟩
  refine nx (sl 0 rfl (sl 2 rfl (sl 4 rfl (sl 16 rfl (sl 17 rfl sn))))) (el 10 rfl (el 111 rfl (el 113 rfl (el 9 rfl en)))) ?_
  refine tri_block ?_
  refine tri_loop (ι := Nat × List Int × List (List Int)) (fun (i, D, L) => [(0, T.l (cL (cZi kb)) b), (2, T.p 10 0), (4, T.p 113 0), (16, T.c (.int .i64 (b.length : Int))), (17, T.c (.int .i64 (i : Int)))]) (fun (i, D, L) => [(10, some (Ent.box 26 [T.c (.slice none 0 0), T.c (.slice none 0 0)])), (111, some (Ent.row (cZ K) 44 (D))), (9, some (Ent.row (cL (cZ K)) 24 (L))), (113, some (Ent.box 26 [T.o 111, T.o 9]))]) (fun (i, D, L) => b.length - i) (fun (i, D, L) => (i ≤ b.length) ∧ (bld b i = some (D, L)) ∧ (BI S i D L)) (0, [1], []) ⟨Nat.zero_le _, rfl, BI.zero S⟩ (sl 0 rfl (sl 2 rfl (sl 4 rfl (sl 16 rfl (sl 17 rfl sn))))) (el 10 rfl (el 111 rfl (el 9 rfl (el 113 rfl en)))) ?_
  rintro ⟨i, D, L⟩ ⟨hi, hb, hB⟩
  refine tri_sub (sl 0 rfl (sl 2 rfl (sl 4 rfl (sl 16 rfl (sl 17 rfl sn))))) (el 10 rfl (el 111 rfl (el 9 rfl (el 113 rfl en)))) ?_
  refine tri_seq ?_
  refine tri_reg mixed hcx ?_ _ _
  refine clt rfl rfl rfl ?_
  refine ⟨by kernel_rfl, ?_⟩
  refine nx (sl 0 rfl (sl 2 rfl (sl 4 rfl (sl 16 rfl (sl 17 rfl (sl 18 rfl sn)))))) (el 10 rfl (el 111 rfl (el 9 rfl (el 113 rfl en)))) ?_
  refine tri_seq ?_
  refine tri_if rfl (fun hc => ?_) (fun hc => ?_)
  · obtain ⟨hpos, hnx⟩ := bld_next h (show i < b.length by omega) hb
    have hmi : (b.getD i (cL (cZi kb)).dflt).length = m := hm i (by omega)
    have hDl := hB.hD; have hLl := hB.hL
    refine tri_skip ?_
    refine nx (sl 0 rfl (sl 2 rfl (sl 4 rfl (sl 16 rfl (sl 17 rfl sn))))) (el 10 rfl (el 111 rfl (el 9 rfl (el 113 rfl en)))) ?_
    refine tri_seq ?_
    refine tri_block ?_
    refine tri_seq ?_
    refine tri_reg mixed hcx ?_ _ _
    refine mv rfl ?_
    refine asg rfl ?_
    refine ⟨by kernel_rfl, ?_⟩
    refine nx (sl 0 rfl (sl 2 rfl (sl 4 rfl (sl 5 rfl (sl 16 rfl (sl 17 rfl sn)))))) (el 10 rfl (el 111 rfl (el 9 rfl (el 113 rfl en)))) ?_
    refine tri_seq ?_
    refine tri_reg mixed hcx ?_ _ _
    refine mv rfl ?_
    refine ad (((i + 1 : Nat) : Int)) rfl rfl rfl (by omega) ?_
    refine mk0 (c := (cZ K)) (n := i + 1) 512 slZs rfl rfl (by omega) (by decide) ?_
    refine asg rfl ?_
    refine ⟨by kernel_rfl, ?_⟩
    refine nx (sl 0 rfl (sl 2 rfl (sl 4 rfl (sl 5 rfl (sl 6 rfl (sl 16 rfl (sl 17 rfl sn))))))) (el 10 rfl (el 111 rfl (el 9 rfl (el 113 rfl (el 512 rfl en))))) ?_
    refine tri_seq ?_
    refine tri_seq ?_
    refine tri_reg mixed hcx ?_ _ _
    refine asg rfl ?_
    refine ⟨by kernel_rfl, ?_⟩
    refine nx (sl 0 rfl (sl 2 rfl (sl 4 rfl (sl 5 rfl (sl 6 rfl (sl 7 rfl (sl 16 rfl (sl 17 rfl sn)))))))) (el 10 rfl (el 111 rfl (el 9 rfl (el 113 rfl (el 512 rfl en))))) ?_
    refine tri_block ?_
    refine tri_loop (ι := Nat) (fun j => [(0, T.l (cL (cZi kb)) b), (2, T.p 10 0), (4, T.p 113 0), (5, T.c (.int .i64 (i : Int))), (6, T.o 512), (7, T.c (.int .i64 (j : Int))), (16, T.c (.int .i64 (b.length : Int))), (17, T.c (.int .i64 (i : Int)))]) (fun j => [(10, some (Ent.box 26 [T.c (.slice none 0 0), T.c (.slice none 0 0)])), (111, some (Ent.row (cZ K) 44 (D))), (9, some (Ent.row (cL (cZ K)) 24 (L))), (113, some (Ent.box 26 [T.o 111, T.o 9])), (512, some (Ent.row (cZ K) 44 ((rowU b D L i j))))]) (fun j => i + 1 - j) (fun j => (j ≤ i + 1) ∧ (RI S j (rowU b D L i j))) 0 ⟨Nat.zero_le _, RI.zero S⟩ (sl 0 rfl (sl 2 rfl (sl 4 rfl (sl 5 rfl (sl 6 rfl (sl 7 rfl (sl 16 rfl (sl 17 rfl sn)))))))) (el 10 rfl (el 111 rfl (el 9 rfl (el 113 rfl (el 512 rfl en))))) ?_
    rintro j ⟨hj, hR⟩
    refine tri_sub (sl 0 rfl (sl 2 rfl (sl 4 rfl (sl 5 rfl (sl 6 rfl (sl 7 rfl (sl 16 rfl (sl 17 rfl sn)))))))) (el 10 rfl (el 111 rfl (el 9 rfl (el 113 rfl (el 512 rfl en))))) ?_
    refine tri_seq ?_
    refine tri_seq ?_
    refine tri_reg mixed hcx ?_ _ _
    refine mv rfl ?_
    refine mv rfl ?_
    refine cle rfl rfl rfl ?_
    refine ⟨by kernel_rfl, ?_⟩
    refine nx (sl 0 rfl (sl 2 rfl (sl 4 rfl (sl 5 rfl (sl 6 rfl (sl 7 rfl (sl 16 rfl (sl 17 rfl (sl 25 rfl sn))))))))) (el 10 rfl (el 111 rfl (el 9 rfl (el 113 rfl (el 512 rfl en))))) ?_
    refine tri_if rfl (fun hd => ?_) (fun hd => ?_)
    · have hmj : (b.getD j (cL (cZi kb)).dflt).length = m := hm j (by omega)
      have hRl := hR.len
      refine tri_skip ?_
      refine nx (sl 0 rfl (sl 2 rfl (sl 4 rfl (sl 5 rfl (sl 6 rfl (sl 7 rfl (sl 16 rfl (sl 17 rfl sn)))))))) (el 10 rfl (el 111 rfl (el 9 rfl (el 113 rfl (el 512 rfl en))))) ?_
      refine tri_seq ?_
      refine tri_block ?_
      refine tri_seq ?_
      refine tri_reg mixed hcx ?_ _ _
      refine mv rfl ?_
      refine mv rfl ?_
      refine ix rfl rfl slZss ⟨rfl, by omega⟩ ?_
      refine lf rfl tyZs ?_
      refine mv rfl ?_
      refine mv rfl ?_
      refine ix rfl rfl slZss ⟨rfl, by omega⟩ ?_
      refine lf rfl tyZs ?_
      refine ca rfl (h := mat_Dot (by omega) (by omega) (by omega) (by omega)) (hn := ?_)
      refine mv rfl ?_
      refine ex rfl rfl ?_
      refine ex rfl rfl ?_
      refine nw 922 zeZ ?_
      refine st rfl rfl rfl tyZ rfl ?_
      refine asg rfl ?_
      refine ⟨by kernel_rfl, ?_⟩
      refine nx (sl 0 rfl (sl 2 rfl (sl 4 rfl (sl 5 rfl (sl 6 rfl (sl 7 rfl (sl 8 rfl (sl 16 rfl (sl 17 rfl sn))))))))) (el 10 rfl (el 111 rfl (el 9 rfl (el 113 rfl (el 512 rfl (el 922 rfl en)))))) ?_
      refine tri_seq ?_
      refine tri_seq ?_
      refine tri_bz 922 rfl fun hz0 => ?_
      have hzS : zl (dotU (b.getD i []) (b.getD j []) (b.getD i []).length) ≤ S := hS i j (by omega) (by omega)
      refine tri_reg mixed hcx ?_ _ _
      refine asg rfl ?_
      refine ⟨by kernel_rfl, ?_⟩
      refine nx (sl 0 rfl (sl 2 rfl (sl 4 rfl (sl 5 rfl (sl 6 rfl (sl 7 rfl (sl 8 rfl (sl 10 rfl (sl 16 rfl (sl 17 rfl sn)))))))))) (el 10 rfl (el 111 rfl (el 9 rfl (el 113 rfl (el 512 rfl (el 922 rfl en)))))) ?_
      refine tri_block ?_
      refine tri_loop (ι := Nat) (fun q => [(0, T.l (cL (cZi kb)) b), (2, T.p 10 0), (4, T.p 113 0), (5, T.c (.int .i64 (i : Int))), (6, T.o 512), (7, T.c (.int .i64 (j : Int))), (8, T.p 922 0), (10, T.c (.int .i64 (q : Int))), (16, T.c (.int .i64 (b.length : Int))), (17, T.c (.int .i64 (i : Int)))]) (fun q => [(10, some (Ent.box 26 [T.c (.slice none 0 0), T.c (.slice none 0 0)])), (111, some (Ent.row (cZ K) 44 (D))), (9, some (Ent.row (cL (cZ K)) 24 (L))), (113, some (Ent.box 26 [T.o 111, T.o 9])), (512, some (Ent.row (cZ K) 44 ((rowU b D L i j)))), (922, some (Ent.box 44 [T.Z (redU D (pickL L (rowU b D L i j) i j) (rowU b D L i j) (dotU (b.getD i []) (b.getD j []) (b.getD i []).length) q) K]))]) (fun q => j - q) (fun q => (q ≤ j)) 0 (Nat.zero_le _) (sl 0 rfl (sl 2 rfl (sl 4 rfl (sl 5 rfl (sl 6 rfl (sl 7 rfl (sl 8 rfl (sl 10 rfl (sl 16 rfl (sl 17 rfl sn)))))))))) (el 10 rfl (el 111 rfl (el 9 rfl (el 113 rfl (el 512 rfl (ew 922 rfl (box_pack1 (show (T.Z _ _).le (T.Z (dotU (b.getD i []) (b.getD j []) (b.getD i []).length) K) from z_as (Nat.le_trans hzS hSK))) en)))))) ?_
      rintro q hq
      refine tri_sub (sl 0 rfl (sl 2 rfl (sl 4 rfl (sl 5 rfl (sl 6 rfl (sl 7 rfl (sl 8 rfl (sl 10 rfl (sl 16 rfl (sl 17 rfl sn)))))))))) (el 10 rfl (el 111 rfl (el 9 rfl (el 113 rfl (el 512 rfl (el 922 rfl en)))))) ?_
      refine tri_seq ?_
      refine tri_seq ?_
      refine tri_reg mixed hcx ?_ _ _
      refine mv rfl ?_
      refine mv rfl ?_
      refine clt rfl rfl rfl ?_
      refine ⟨by kernel_rfl, ?_⟩
      refine nx (sl 0 rfl (sl 2 rfl (sl 4 rfl (sl 5 rfl (sl 6 rfl (sl 7 rfl (sl 8 rfl (sl 10 rfl (sl 16 rfl (sl 17 rfl (sl 42 rfl sn))))))))))) (el 10 rfl (el 111 rfl (el 9 rfl (el 113 rfl (el 512 rfl (el 922 rfl en)))))) ?_
      refine tri_if rfl (fun he => ?_) (fun he => ?_)
      · have hDq : D.getD q (cZ K).dflt ≠ 0 := Int.ne_of_gt (hB.pos q (by omega))
        refine tri_skip ?_
        refine nx (sl 0 rfl (sl 2 rfl (sl 4 rfl (sl 5 rfl (sl 6 rfl (sl 7 rfl (sl 8 rfl (sl 10 rfl (sl 16 rfl (sl 17 rfl sn)))))))))) (el 10 rfl (el 111 rfl (el 9 rfl (el 113 rfl (el 512 rfl (el 922 rfl en)))))) ?_
        refine tri_seq ?_
        refine tri_block ?_
        refine tri_seq ?_
        refine tri_reg mixed hcx ?_ _ _
        refine mv rfl ?_
        refine asg rfl ?_
        refine ⟨by kernel_rfl, ?_⟩
        refine nx (sl 0 rfl (sl 2 rfl (sl 4 rfl (sl 5 rfl (sl 6 rfl (sl 7 rfl (sl 8 rfl (sl 10 rfl (sl 11 rfl (sl 16 rfl (sl 17 rfl sn))))))))))) (el 10 rfl (el 111 rfl (el 9 rfl (el 113 rfl (el 512 rfl (el 922 rfl en)))))) ?_
        refine tri_seq ?_
        refine tri_seq ?_
        refine tri_reg mixed hcx ?_ _ _
        refine mv rfl ?_
        refine mv rfl ?_
        refine clt rfl rfl rfl ?_
        refine ⟨by kernel_rfl, ?_⟩
        refine nx (sl 0 rfl (sl 2 rfl (sl 4 rfl (sl 5 rfl (sl 6 rfl (sl 7 rfl (sl 8 rfl (sl 10 rfl (sl 11 rfl (sl 16 rfl (sl 17 rfl (sl 48 rfl sn)))))))))))) (el 10 rfl (el 111 rfl (el 9 rfl (el 113 rfl (el 512 rfl (el 922 rfl en)))))) ?_
        refine tri_if rfl (fun hf => ?_) (fun hf => ?_)
        · have hLj : (L.getD j (cL (cZ K)).dflt).length = j := hB.lL j (by omega)
          refine tri_reg mixed hcx ?_ _ _
          refine fa rfl fL 1 ?_
          refine ld rfl rfl tyZss rfl ?_
          refine mv rfl ?_
          refine ixo rfl rfl rfl slZss ⟨rfl, by omega⟩ ?_
          refine lo _ rfl rfl tyZs ⟨rfl, rfl, by omega⟩ ?_
          refine asg rfl ?_
          refine ⟨by kernel_rfl, ?_⟩
          refine nx (sl 0 rfl (sl 2 rfl (sl 4 rfl (sl 5 rfl (sl 6 rfl (sl 7 rfl (sl 8 rfl (sl 10 rfl (sl 11 rfl (sl 16 rfl (sl 17 rfl sn))))))))))) (el 10 rfl (el 111 rfl (el 9 rfl (el 113 rfl (el 512 rfl (el 922 rfl en)))))) ?_
          refine tri_seq ?_
          refine tri_reg mixed hcx ?_ _ _
          refine fa rfl fD 0 ?_
          refine ld rfl rfl tyZs rfl ?_
          refine mv rfl ?_
          refine ad (((q + 1 : Nat) : Int)) rfl rfl rfl (by omega) ?_
          refine ixo rfl rfl rfl slZs ⟨rfl, by omega⟩ ?_
          refine lo _ rfl rfl tyZ ⟨rfl, rfl, by omega⟩ ?_
          refine ld rfl rfl tyZ rfl ?_
          refine ca rfl (h := zi_Mul (by omega) (by omega)) (hn := ?_)
          refine mv rfl ?_
          refine mv rfl ?_
          refine ixo rfl rfl rfl slZs ⟨rfl, by omega⟩ ?_
          refine lo _ rfl rfl tyZ ⟨rfl, rfl, by omega⟩ ?_
          refine mv rfl ?_
          refine mv rfl ?_
          refine ix rfl rfl slZs ⟨rfl, by omega⟩ ?_
          refine lf rfl tyZ ?_
          refine ca rfl (h := zi_Mul (by omega) (by omega)) (hn := ?_)
          refine ca rfl (h := zi_Sub (by omega) (by omega)) (hn := ?_)
          refine st rfl rfl rfl tyZ rfl ?_
          refine ⟨by kernel_rfl, ?_⟩
          refine nx (sl 0 rfl (sl 2 rfl (sl 4 rfl (sl 5 rfl (sl 6 rfl (sl 7 rfl (sl 8 rfl (sl 10 rfl (sl 16 rfl (sl 17 rfl sn)))))))))) (el 10 rfl (el 111 rfl (el 9 rfl (el 113 rfl (el 512 rfl (el 922 rfl en)))))) ?_
          refine tri_reg mixed hcx ?_ _ _
          refine ld rfl rfl tyZ rfl ?_
          refine fa rfl fD 0 ?_
          refine ld rfl rfl tyZs rfl ?_
          refine mv rfl ?_
          refine ixo rfl rfl rfl slZs ⟨rfl, by omega⟩ ?_
          refine lo _ rfl rfl tyZ ⟨rfl, rfl, by omega⟩ ?_
          refine ca rfl (h := zi_Floor (by assumption) (by omega) (by omega)) (hn := ?_)
          refine mv rfl ?_
          refine ex rfl rfl ?_
          refine ex rfl rfl ?_
          refine ex rfl rfl ?_
          refine st rfl rfl rfl tyZ rfl ?_
          refine ⟨by kernel_rfl, ?_⟩
          refine pn_blk ?_
          refine nx (sl 0 rfl (sl 2 rfl (sl 4 rfl (sl 5 rfl (sl 6 rfl (sl 7 rfl (sl 8 rfl (sl 10 rfl (sl 16 rfl (sl 17 rfl sn)))))))))) (el 10 rfl (el 111 rfl (el 9 rfl (el 113 rfl (el 512 rfl (el 922 rfl en)))))) ?_
          refine tri_reg mixed hcx ?_ _ _
          refine mv rfl ?_
          refine ad (((q + 1 : Nat) : Int)) rfl rfl rfl (by omega) ?_
          refine asg rfl ?_
          refine ⟨by kernel_rfl, ?_⟩
          exact pn_back (q + 1) (by first | omega | (dsimp only; omega)) (by omega) (sl 0 rfl (sl 2 rfl (sl 4 rfl (sl 5 rfl (sl 6 rfl (sl 7 rfl (sl 8 rfl (sl 10 rfl (sl 16 rfl (sl 17 rfl sn)))))))))) (el 10 rfl (el 111 rfl (el 9 rfl (el 113 rfl (el 512 rfl (ew 922 rfl (box_pack1 (z_to (by show _ = stepU D (pickL L (rowU b D L i j) i j) (rowU b D L i j) q (redU D (pickL L (rowU b D L i j) i j) (rowU b D L i j) (dotU (b.getD i []) (b.getD j []) (b.getD i []).length) q); unfold stepU; rw [show pickL L (rowU b D L i j) i j = L.getD j [] from if_pos (show j < i by omega)]; rfl) (Nat.le_trans (red_bd (k := q + 1) hB hR (by omega) hzS (by omega)) (Nat.le_trans (bd_mono (by omega)) hK1)))) en))))))
        · refine tri_skip ?_
          refine nx (sl 0 rfl (sl 2 rfl (sl 4 rfl (sl 5 rfl (sl 6 rfl (sl 7 rfl (sl 8 rfl (sl 10 rfl (sl 11 rfl (sl 16 rfl (sl 17 rfl sn))))))))))) (el 10 rfl (el 111 rfl (el 9 rfl (el 113 rfl (el 512 rfl (el 922 rfl en)))))) ?_
          refine tri_seq ?_
          refine tri_reg mixed hcx ?_ _ _
          refine fa rfl fD 0 ?_
          refine ld rfl rfl tyZs rfl ?_
          refine mv rfl ?_
          refine ad (((q + 1 : Nat) : Int)) rfl rfl rfl (by omega) ?_
          refine ixo rfl rfl rfl slZs ⟨rfl, by omega⟩ ?_
          refine lo _ rfl rfl tyZ ⟨rfl, rfl, by omega⟩ ?_
          refine ld rfl rfl tyZ rfl ?_
          refine ca rfl (h := zi_Mul (by omega) (by omega)) (hn := ?_)
          refine mv rfl ?_
          refine mv rfl ?_
          refine ixo rfl rfl rfl slZs ⟨rfl, by omega⟩ ?_
          refine lo _ rfl rfl tyZ ⟨rfl, rfl, by omega⟩ ?_
          refine mv rfl ?_
          refine mv rfl ?_
          refine ixo rfl rfl rfl slZs ⟨rfl, by omega⟩ ?_
          refine lo _ rfl rfl tyZ ⟨rfl, rfl, by omega⟩ ?_
          refine ca rfl (h := zi_Mul (by omega) (by omega)) (hn := ?_)
          refine ca rfl (h := zi_Sub (by omega) (by omega)) (hn := ?_)
          refine st rfl rfl rfl tyZ rfl ?_
          refine ⟨by kernel_rfl, ?_⟩
          refine nx (sl 0 rfl (sl 2 rfl (sl 4 rfl (sl 5 rfl (sl 6 rfl (sl 7 rfl (sl 8 rfl (sl 10 rfl (sl 16 rfl (sl 17 rfl sn)))))))))) (el 10 rfl (el 111 rfl (el 9 rfl (el 113 rfl (el 512 rfl (el 922 rfl en)))))) ?_
          refine tri_reg mixed hcx ?_ _ _
          refine ld rfl rfl tyZ rfl ?_
          refine fa rfl fD 0 ?_
          refine ld rfl rfl tyZs rfl ?_
          refine mv rfl ?_
          refine ixo rfl rfl rfl slZs ⟨rfl, by omega⟩ ?_
          refine lo _ rfl rfl tyZ ⟨rfl, rfl, by omega⟩ ?_
          refine ca rfl (h := zi_Floor (by assumption) (by omega) (by omega)) (hn := ?_)
          refine mv rfl ?_
          refine ex rfl rfl ?_
          refine ex rfl rfl ?_
          refine ex rfl rfl ?_
          refine st rfl rfl rfl tyZ rfl ?_
          refine ⟨by kernel_rfl, ?_⟩
          refine pn_blk ?_
          refine nx (sl 0 rfl (sl 2 rfl (sl 4 rfl (sl 5 rfl (sl 6 rfl (sl 7 rfl (sl 8 rfl (sl 10 rfl (sl 16 rfl (sl 17 rfl sn)))))))))) (el 10 rfl (el 111 rfl (el 9 rfl (el 113 rfl (el 512 rfl (el 922 rfl en)))))) ?_
          refine tri_reg mixed hcx ?_ _ _
          refine mv rfl ?_
          refine ad (((q + 1 : Nat) : Int)) rfl rfl rfl (by omega) ?_
          refine asg rfl ?_
          refine ⟨by kernel_rfl, ?_⟩
          exact pn_back (q + 1) (by first | omega | (dsimp only; omega)) (by omega) (sl 0 rfl (sl 2 rfl (sl 4 rfl (sl 5 rfl (sl 6 rfl (sl 7 rfl (sl 8 rfl (sl 10 rfl (sl 16 rfl (sl 17 rfl sn)))))))))) (el 10 rfl (el 111 rfl (el 9 rfl (el 113 rfl (el 512 rfl (ew 922 rfl (box_pack1 (z_to (by show _ = stepU D (pickL L (rowU b D L i j) i j) (rowU b D L i j) q (redU D (pickL L (rowU b D L i j) i j) (rowU b D L i j) (dotU (b.getD i []) (b.getD j []) (b.getD i []).length) q); unfold stepU; rw [show pickL L (rowU b D L i j) i j = (rowU b D L i j) from if_neg (show ¬ j < i by omega)]; rfl) (Nat.le_trans (red_bd (k := q + 1) hB hR (by omega) hzS (by omega)) (Nat.le_trans (bd_mono (by omega)) hK1)))) en))))))
      · refine tri_exit ?_
        repeat (first | refine pn_then ?_ | refine pn_oth (by decide) ?_)
        refine pn_ex ?_
        have hqj : q = j := by omega
        refine nx (sl 0 rfl (sl 2 rfl (sl 4 rfl (sl 5 rfl (sl 6 rfl (sl 7 rfl (sl 8 rfl (sl 16 rfl (sl 17 rfl sn))))))))) (el 10 rfl (el 111 rfl (el 9 rfl (el 113 rfl (el 512 rfl (el 922 rfl en)))))) ?_
        refine tri_reg mixed hcx ?_ _ _
        refine mv rfl ?_
        refine ld rfl rfl tyZ rfl ?_
        refine bs (c := cZ K) (xs := [redU D (pickL L (rowU b D L i j) i j) (rowU b D L i j) (dotU (b.getD i []) (b.getD j []) (b.getD i []).length) j]) slZs rfl ⟨.of (by rw [hqj]; rfl), trivial⟩ ?_
        refine ap 1813 rfl rfl rfl slZs (by simp only [List.length_cons, List.length_nil]; omega) (by decide) ?_
        refine asg rfl ?_
        refine ⟨by kernel_rfl, ?_⟩
        refine pn_blk ?_
        refine nx (sl 0 rfl (sl 2 rfl (sl 4 rfl (sl 5 rfl (sl 6 rfl (sl 7 rfl (sl 16 rfl (sl 17 rfl sn)))))))) (el 10 rfl (el 111 rfl (el 9 rfl (el 113 rfl (el 922 rfl (el 1813 rfl en)))))) ?_
        refine tri_reg mixed hcx ?_ _ _
        refine mv rfl ?_
        refine ad (((j + 1 : Nat) : Int)) rfl rfl rfl (by omega) ?_
        refine asg rfl ?_
        refine ⟨by kernel_rfl, ?_⟩
        refine pn_sub (sl 0 rfl (sl 2 rfl (sl 4 rfl (sl 5 rfl (sl 6 rfl (sl 7 rfl (sl 16 rfl (sl 17 rfl sn)))))))) (el 10 rfl (el 111 rfl (el 9 rfl (el 113 rfl (el 922 rfl (el 1813 rfl en)))))) ?_
        refine pn_ren 6 512 1813 rfl rfl (by rw [hcx]; kernel_rfl) ?_
        exact pn_back (j + 1) (by first | omega | (dsimp only; omega)) ⟨by omega, hR.snoc (red_bd hB hR (by omega) hzS (Nat.le_refl _))⟩ (sl 0 rfl (sl 2 rfl (sl 4 rfl (sl 5 rfl (sl 6 rfl (sl 7 rfl (sl 16 rfl (sl 17 rfl sn)))))))) (el 10 rfl (el 111 rfl (el 9 rfl (el 113 rfl (el 512 rfl en)))))
    · refine tri_exit ?_
      repeat (first | refine pn_then ?_ | refine pn_oth (by decide) ?_)
      refine pn_ex ?_
      have hji : j = i + 1 := by omega
      subst hji
      have hRl := hR.len; have hsp : sg ((rowU b D L i (i + 1)).getD i (cZ K).dflt) = 1 := sg_pos hpos
      refine nx (sl 0 rfl (sl 2 rfl (sl 4 rfl (sl 5 rfl (sl 6 rfl (sl 16 rfl (sl 17 rfl sn))))))) (el 10 rfl (el 111 rfl (el 9 rfl (el 113 rfl (el 512 rfl en))))) ?_
      refine tri_seq ?_
      refine tri_seq ?_
      refine tri_reg mixed hcx ?_ _ _
      refine mv rfl ?_
      refine mv rfl ?_
      refine ixo rfl rfl rfl slZs ⟨rfl, by omega⟩ ?_
      refine lo _ rfl rfl tyZ ⟨rfl, rfl, by omega⟩ ?_
      refine ca rfl (h := zi_Sign (by omega)) (hn := ?_)
      refine cle rfl rfl (decide_eq_false (by omega)) ?_
      refine ⟨by kernel_rfl, ?_⟩
      refine nx (sl 0 rfl (sl 2 rfl (sl 4 rfl (sl 5 rfl (sl 6 rfl (sl 16 rfl (sl 17 rfl (sl 92 rfl sn)))))))) (el 10 rfl (el 111 rfl (el 9 rfl (el 113 rfl (el 512 rfl en))))) ?_
      refine tri_false rfl rfl ?_
      refine tri_skip ?_
      refine nx (sl 0 rfl (sl 2 rfl (sl 4 rfl (sl 5 rfl (sl 6 rfl (sl 16 rfl (sl 17 rfl sn))))))) (el 10 rfl (el 111 rfl (el 9 rfl (el 113 rfl (el 512 rfl en))))) ?_
      refine tri_seq ?_
      refine tri_fz 512 rfl ?_
      refine tri_rd 6 512 rfl rfl ?_
      refine tri_reg mixed hcx ?_ _ _
      refine fa rfl fD 0 ?_
      refine ld rfl rfl tyZs rfl ?_
      refine mv rfl ?_
      refine mv rfl ?_
      refine ix rfl rfl slZs ⟨rfl, by omega⟩ ?_
      refine lf rfl tyZ ?_
      refine bs (c := cZ K) (xs := [(rowU b D L i (i + 1)).getD i 0]) slZs rfl ⟨.refl _, trivial⟩ ?_
      refine ap 2117 rfl rfl rfl slZs (by simp only [List.length_cons, List.length_nil]; omega) (by decide) ?_
      refine fa rfl fD 0 ?_
      refine st rfl rfl rfl tyZs rfl ?_
      refine ⟨by kernel_rfl, ?_⟩
      refine nx (sl 0 rfl (sl 2 rfl (sl 4 rfl (sl 5 rfl (sl 6 rfl (sl 16 rfl (sl 17 rfl sn))))))) (el 10 rfl (el 9 rfl (el 113 rfl (el 2117 rfl en)))) ?_
      refine tri_reg mixed hcx ?_ _ _
      refine fa rfl fL 1 ?_
      refine ld rfl rfl tyZss rfl ?_
      refine mv rfl ?_
      refine mv rfl ?_
      refine mv rfl ?_
      refine sh3 rfl slZs rfl rfl ⟨rfl, rfl, by omega⟩ ?_
      refine bs (c := cL (cZ K)) (xs := [(rowU b D L i (i + 1)).take i]) slZss rfl ⟨.refl _, trivial⟩ ?_
      refine ap 2217 rfl rfl rfl slZss (by simp only [List.length_cons, List.length_nil]; omega) (by decide) ?_
      refine fa rfl fL 1 ?_
      refine st rfl rfl rfl tyZss rfl ?_
      refine ⟨by kernel_rfl, ?_⟩
      refine pn_blk ?_
      refine nx (sl 0 rfl (sl 2 rfl (sl 4 rfl (sl 16 rfl (sl 17 rfl sn))))) (el 10 rfl (el 113 rfl (el 2117 rfl (el 2217 rfl en)))) ?_
      refine tri_reg mixed hcx ?_ _ _
      refine ad _ rfl rfl rfl ⟨rfl, by omega, by omega⟩ ?_
      refine mv rfl ?_
      refine ⟨by kernel_rfl, ?_⟩
      refine pn_sub (sl 0 rfl (sl 2 rfl (sl 4 rfl (sl 16 rfl (sl 17 rfl sn))))) (el 10 rfl (el 113 rfl (el 2117 rfl (el 2217 rfl en)))) ?_
      refine pn_renb (bl := [T.o 2117, T.o 2217]) (bl' := [T.o 111, T.o 2217]) 113 111 2117 rfl rfl ⟨.inr ⟨rfl, rfl⟩, .inl ⟨rfl, by show 111 ∉ [2217]; decide⟩, trivial⟩ (by rw [hcx]; kernel_rfl) rfl ?_
      refine pn_renb (bl := [T.o 111, T.o 2217]) (bl' := [T.o 111, T.o 9]) 113 9 2217 rfl rfl ⟨.inl ⟨rfl, by show 9 ∉ [111]; decide⟩, .inr ⟨rfl, rfl⟩, trivial⟩ (by rw [hcx]; kernel_rfl) rfl ?_
      exact pn_back (i + 1, D ++ [(rowU b D L i (i + 1)).getD i 0], L ++ [(rowU b D L i (i + 1)).take i]) (by dsimp only; omega) ⟨by omega, hnx, hB.step hR hpos⟩ (sl 0 rfl (sl 2 rfl (sl 4 rfl (sl 16 rfl (sl 17 rfl sn))))) (el 10 rfl (el 111 rfl (el 9 rfl (el 113 rfl en))))
  · refine tri_exit ?_
    repeat (first | refine pn_then ?_ | refine pn_oth (by decide) ?_)
    refine pn_ex ?_
    have hin : i = b.length := by omega
    rw [hin, h] at hb; cases hb
    refine nx (sl 2 rfl (sl 4 rfl sn)) (el 10 rfl (el 111 rfl (el 9 rfl (el 113 rfl en)))) ?_
    refine tri_seq ?_
    refine tri_fz 111 rfl ?_
    refine tri_rdb (bl := [T.o 111, T.o 9]) (bl' := [T.l (cZ K) D0, T.o 9]) 113 111 rfl rfl ⟨.inr ⟨rfl, rfl⟩, .inl rfl, trivial⟩ ?_
    refine tri_fz 9 rfl ?_
    refine tri_rdb (bl := [T.l (cZ K) D0, T.o 9]) (bl' := [T.l (cZ K) D0, T.l (cL (cZ K)) L0]) 113 9 rfl rfl ⟨.inl rfl, .inr ⟨rfl, rfl⟩, trivial⟩ ?_
    refine tri_reg mixed hcx ?_ _ _
    refine ld rfl rfl tyG rfl ?_
    refine st rfl rfl rfl tyG rfl ?_
    refine asg rfl ?_
    refine ⟨by kernel_rfl, ?_⟩
    refine nx (sl 2 rfl (sl 3 rfl sn)) (el 10 rfl (el 113 rfl en)) ?_
    refine tri_ret ?_
    repeat (first | refine pn_thenr ?_ | refine pn_blkr ?_)
    exact ret2 hcx rfl (rv_cell (c' := cx) (n := 0) rfl rfl tyG rfl) (rv_tmp rfl) (.refl _) en
end Go.Proofs.Ytbihfnjmdpbkgaa.V
