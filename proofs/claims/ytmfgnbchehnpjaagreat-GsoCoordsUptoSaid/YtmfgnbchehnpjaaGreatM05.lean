/- The data of rows. -/
import Derived.Test.YtmfgnbchehnpjaaGreatRows
import Derived.ChangeSame
import Derived.ChangeSlices
import Derived.Deep.Slices
import Derived.ProofKit
import Derived.ChangeArms
import Ieee.Arith
import GoSem.Core.Float
import GoSem.Op.Unary
import Derived.Laws.FloatArith
import Derived.Laws.Externs
import Derived.Test.YtmfgnbchehnpjaaGreatM04
set_option linter.unusedVariables false
set_option linter.unusedSimpArgs false
set_option maxRecDepth 100000
namespace Go.Proofs.YtmfgnbchehnpjaaGreat.V
open Go.RowKit Mt Nml
instance (k : Nat) (z : Int) : IsZ ((cZ k).X z) z k := inferInstanceAs (IsZ (T.Z z k) z k)
instance (k : Nat) (z : Int) : IsZ ((cZi k).X z) z k := inferInstanceAs (IsZ (T.Zi z k) z k)
theorem z_to {z z' : Int} {k k' : Nat} (e : z = z') (h : zl z' ≤ k') : (T.Z z k).le (T.Z z' k') := by subst e; exact z_as h
/-- A row in a box that is written to no more. -/
def RdC (e : Nat) (X' : T) : List T → List T → Prop
  | [], [] => True
  | X :: r, Y :: s => (X = Y ∨ (X = T.o e ∧ Y = X')) ∧ RdC e X' r s
  | _, _ => False
theorem RdC.cells {e : Nat} {X' : T} {β : Env} {u : World} (h0 : X'.sz ≠ 0) (h : ∀ v, v = β e → X'.rep β u v) : ∀ {l l' : List T} {cs : List Value}, RdC e X' l l' → Cells β u l cs → Cells β u l' cs
  | [], [], _, _, h => h
  | X :: r, Y :: s, cs, ⟨k1, k2⟩, ⟨v, rest, h1, h2, he, h3⟩ => by
    rcases k1 with rfl | ⟨rfl, rfl⟩
    · exact ⟨v, rest, h1, h2, he, RdC.cells h0 h k2 h3⟩
    · exact ⟨v, rest, h0, h v h2.1, he, RdC.cells h0 h k2 h3⟩
  | [], _ :: _, _, h, _ => h.elim
  | _ :: _, [], _, h, _ => h.elim
section
variable {P : Program} {x : Code} {Q : Exit → Act → World → Prop} {ctx : Ctx} {n : Nat} {g : List (Nat × T)} {E : List (Nat × Option Ent)}
theorem tri_bz {et : TypeId} {z : Int} {k : Nat} (e : Nat) (hE : lkE E e = some (Ent.box et [T.Z z k])) (h : zl z ≤ k → Tri P x Q ctx n g E) : Tri P x Q ctx n g E := fun a w hS => by
  have hS' := hS
  obtain ⟨β, u, F, h1, h2, h3, h4, _⟩ := hS'
  obtain ⟨b, cs, _, _, _, v, rest, _, ⟨_, hz, _⟩, _⟩ := h4.hold e _ hE
  exact h hz a w hS
theorem tri_rdb {α : Type} {c : Cod α} {l : List α} {et : TypeId} {bl bl' : List T} (f e : Nat) (hE : lkE E e = some (Ent.frz c l)) (hB : lkE E f = some (Ent.box et bl)) (hr : RdC e (T.l c l) bl bl') (h : Tri P x Q ctx n g ((f, some (Ent.box et bl')) :: E)) : Tri P x Q ctx n g E := fun a w hS => h a w (by
  obtain ⟨β, u, F, h1, h2, h3, h4, h5, h6, h7⟩ := hS
  have hlk : ∀ q, lkE ((f, some (Ent.box et bl')) :: E) q = if f = q then some (Ent.box et bl') else lkE E q := fun q => by
    unfold lkE
    rw [lk_cons]
    by_cases h0 : f = q
    · rw [if_pos h0, if_pos h0]; rfl
    · rw [if_neg h0, if_neg h0]
  have old : ∀ q X, lkE ((f, some (Ent.box et bl')) :: E) q = some X → ∃ Y, lkE E q = some Y := fun q X hX => by
    rw [hlk] at hX
    split at hX
    · rename_i h; subst h; exact ⟨_, hB⟩
    · exact ⟨_, hX⟩
  refine ⟨β, u, F, h1, h2, h3, ⟨fun q X hX => ?_, fun q X k hX hk => ?_, fun q p X Y k hX hY hn hk hk' => ?_⟩, h5, fun q X k hX hk => ?_, h7⟩
  · rw [hlk] at hX
    split at hX
    · rename_i hq
      subst hq
      cases hX
      obtain ⟨b, cs, k1, k2, k3, k4⟩ := h4.hold _ _ hB
      have hfz := (h4.hold e _ hE).2
      exact ⟨b, cs, k1, k2, k3, RdC.cells (by show (1 : Nat) ≠ 0; omega) (fun v hv => (T.l c l).ext (β := B0) (fun _ h => by cases h) (by rw [hv]; exact hfz)) hr k4⟩
    · exact h4.hold q X hX
  · obtain ⟨Y, hY⟩ := old q X hX; exact h4.dead q Y k hY hk
  · obtain ⟨X', hX'⟩ := old q X hX
    obtain ⟨Y', hY'⟩ := old p Y hY
    exact h4.apart q p X' Y' k hX' hY' hn hk hk'
  · obtain ⟨Y, hY⟩ := old q X hX; exact h6 q Y k hY hk)
end

theorem g_built {b : List (List Int)} {D0 : List Int} {L0 : List (List Int)} {kb m S K : Nat} (h : bld b b.length = some (D0, L0)) (hbl : b.length ≤ 12) (hm : ∀ i, i < b.length → (b.getD i []).length = m) (hmm : m ≤ 1048576) (hkb : kb ≤ 1048576) (hS : ∀ i j, i < b.length → j ≤ i → zl (dotU (b.getD i []) (b.getD j []) (b.getD i []).length) ≤ S) (hK1 : bd S 12 ≤ K) (hK2 : K ≤ 137438953472) (hK3 : 2 ≤ K) : Fn Tryz.prog 49 [T.l (cL (cZi kb)) b] [] [] [] (T.tup [T.st [T.l (cZ K) D0, T.l (cL (cZ K)) L0], T.c (.bool true)]) := by
  refine fn_of Tryz.func49 rfl (by show 1 ≤ 114; decide) fun cx hcx => ?_
  refine tri_sub (sl 0 rfl sn) en ?_
  have hmb : ∀ i, i < b.length → zl (dotU (b.getD i []) (b.getD i []) (b.getD i []).length) ≤ S := fun i hi => hS i i hi (Nat.le_refl _)
  have hSK : S ≤ K := Nat.le_trans (by have := bd_mono (S := S) (Nat.zero_le 12); rwa [bd_zero] at this) hK1
  refine tri_seq ?_
  refine tri_reg mixed hcx ?_ _ _
  refine nw 10 zeG ?_
  refine asg rfl ?_
  refine ⟨by kernel_rfl, ?_⟩
  refine nx (sl 0 rfl (sl 2 rfl sn)) (el 10 rfl en) ?_
  refine tri_seq ?_
  refine tri_reg mixed hcx ?_ _ _
  refine ca rfl (h := zi_Of (by omega) (by omega)) (hn := ?_)
  refine bso (c := cZ K) (xs := [1]) 111 slZs rfl ⟨z_up (by omega), trivial⟩ ?_
  refine bu stG rfl ?_
  refine nw 113 zeG ?_
  refine sts rfl rfl rfl tyG rfl ?_
  refine ⟨by kernel_rfl, ?_⟩
  refine nx (sl 0 rfl (sl 2 rfl (sl 4 rfl sn))) (el 10 rfl (el 111 rfl (el 113 rfl en))) ?_
  refine tri_seq ?_
  refine tri_seq ?_
  refine tri_nilb (cL (cZ K)) 38 (bl := [T.o 111, T.c (.slice none 0 0)]) (bl' := [T.o 111, T.o 9]) 113 9 rfl ⟨.inl ⟨rfl, by show 9 ∉ [111]; decide⟩, .inr ⟨rfl, rfl⟩, trivial⟩ (by rw [hcx]; kernel_rfl) ?_
  refine tri_reg mixed hcx ?_ _ _
  refine mv rfl ?_
  refine ln slZss rfl ?_
  refine mv rfl ?_
  refine ⟨by kernel_rfl, ?_⟩
  refine nx (sl 0 rfl (sl 2 rfl (sl 4 rfl (sl 16 rfl (sl 17 rfl sn))))) (el 10 rfl (el 111 rfl (el 113 rfl (el 9 rfl en)))) ?_
  refine tri_block ?_
  refine tri_loop (ι := Nat × List Int × List (List Int)) (fun (i, D, L) => [(0, T.l (cL (cZi kb)) b), (2, T.p 10 0), (4, T.p 113 0), (16, T.c (.int .i64 (b.length : Int))), (17, T.c (.int .i64 (i : Int)))]) (fun (i, D, L) => [(10, some (Ent.box 54 [T.c (.slice none 0 0), T.c (.slice none 0 0)])), (111, some (Ent.row (cZ K) 26 (D))), (9, some (Ent.row (cL (cZ K)) 38 (L))), (113, some (Ent.box 54 [T.o 111, T.o 9]))]) (fun (i, D, L) => b.length - i) (fun (i, D, L) => (i ≤ b.length) ∧ (bld b i = some (D, L)) ∧ (BI S i D L)) (0, [1], []) ⟨Nat.zero_le _, rfl, BI.zero S⟩ (sl 0 rfl (sl 2 rfl (sl 4 rfl (sl 16 rfl (sl 17 rfl sn))))) (el 10 rfl (el 111 rfl (el 9 rfl (el 113 rfl en)))) ?_
  rintro ⟨i, D, L⟩ ⟨hi, hb, hB⟩
  refine tri_sub (sl 0 rfl (sl 2 rfl (sl 4 rfl (sl 16 rfl (sl 17 rfl sn))))) (el 10 rfl (el 111 rfl (el 9 rfl (el 113 rfl en)))) ?_
  refine tri_seq ?_
  refine tri_reg mixed hcx ?_ _ _
  refine clt rfl rfl rfl ?_
  refine ⟨by kernel_rfl, ?_⟩
  refine nx (sl 0 rfl (sl 2 rfl (sl 4 rfl (sl 16 rfl (sl 17 rfl (sl 18 rfl sn)))))) (el 10 rfl (el 111 rfl (el 9 rfl (el 113 rfl en)))) ?_
  refine tri_seq ?_
  refine tri_if rfl (fun hc => ?_) (fun hc => ?_)
  · obtain ⟨hpos, hnx⟩ := bld_next h (show i < b.length by omega) hb
    have hmi : (b.getD i (cL (cZi kb)).dflt).length = m := hm i (by omega)
    have hDl := hB.hD; have hLl := hB.hL
    refine tri_skip ?_
    refine nx (sl 0 rfl (sl 2 rfl (sl 4 rfl (sl 16 rfl (sl 17 rfl sn))))) (el 10 rfl (el 111 rfl (el 9 rfl (el 113 rfl en)))) ?_
    refine tri_seq ?_
    refine tri_block ?_
    refine tri_seq ?_
    refine tri_reg mixed hcx ?_ _ _
    refine mv rfl ?_
    refine asg rfl ?_
    refine ⟨by kernel_rfl, ?_⟩
    refine nx (sl 0 rfl (sl 2 rfl (sl 4 rfl (sl 5 rfl (sl 16 rfl (sl 17 rfl sn)))))) (el 10 rfl (el 111 rfl (el 9 rfl (el 113 rfl en)))) ?_
    refine tri_seq ?_
    refine tri_reg mixed hcx ?_ _ _
    refine mv rfl ?_
    refine ad (((i + 1 : Nat) : Int)) rfl rfl rfl (by omega) ?_
    refine mk0 (c := (cZ K)) (n := i + 1) 512 slZs rfl rfl (by omega) (by decide) ?_
    refine asg rfl ?_
    refine ⟨by kernel_rfl, ?_⟩
    refine nx (sl 0 rfl (sl 2 rfl (sl 4 rfl (sl 5 rfl (sl 6 rfl (sl 16 rfl (sl 17 rfl sn))))))) (el 10 rfl (el 111 rfl (el 9 rfl (el 113 rfl (el 512 rfl en))))) ?_
    refine tri_seq ?_
    refine tri_seq ?_
    refine tri_reg mixed hcx ?_ _ _
    refine asg rfl ?_
    refine ⟨by kernel_rfl, ?_⟩
    refine nx (sl 0 rfl (sl 2 rfl (sl 4 rfl (sl 5 rfl (sl 6 rfl (sl 7 rfl (sl 16 rfl (sl 17 rfl sn)))))))) (el 10 rfl (el 111 rfl (el 9 rfl (el 113 rfl (el 512 rfl en))))) ?_
    refine tri_block ?_
    refine tri_loop (ι := Nat) (fun j => [(0, T.l (cL (cZi kb)) b), (2, T.p 10 0), (4, T.p 113 0), (5, T.c (.int .i64 (i : Int))), (6, T.o 512), (7, T.c (.int .i64 (j : Int))), (16, T.c (.int .i64 (b.length : Int))), (17, T.c (.int .i64 (i : Int)))]) (fun j => [(10, some (Ent.box 54 [T.c (.slice none 0 0), T.c (.slice none 0 0)])), (111, some (Ent.row (cZ K) 26 (D))), (9, some (Ent.row (cL (cZ K)) 38 (L))), (113, some (Ent.box 54 [T.o 111, T.o 9])), (512, some (Ent.row (cZ K) 26 ((rowU b D L i j))))]) (fun j => i + 1 - j) (fun j => (j ≤ i + 1) ∧ (RI S j (rowU b D L i j))) 0 ⟨Nat.zero_le _, RI.zero S⟩ (sl 0 rfl (sl 2 rfl (sl 4 rfl (sl 5 rfl (sl 6 rfl (sl 7 rfl (sl 16 rfl (sl 17 rfl sn)))))))) (el 10 rfl (el 111 rfl (el 9 rfl (el 113 rfl (el 512 rfl en))))) ?_
    rintro j ⟨hj, hR⟩
    refine tri_sub (sl 0 rfl (sl 2 rfl (sl 4 rfl (sl 5 rfl (sl 6 rfl (sl 7 rfl (sl 16 rfl (sl 17 rfl sn)))))))) (el 10 rfl (el 111 rfl (el 9 rfl (el 113 rfl (el 512 rfl en))))) ?_
    refine tri_seq ?_
    refine tri_seq ?_
    refine tri_reg mixed hcx ?_ _ _
    refine mv rfl ?_
    refine mv rfl ?_
    refine cle rfl rfl rfl ?_
    refine ⟨by kernel_rfl, ?_⟩
    refine nx (sl 0 rfl (sl 2 rfl (sl 4 rfl (sl 5 rfl (sl 6 rfl (sl 7 rfl (sl 16 rfl (sl 17 rfl (sl 25 rfl sn))))))))) (el 10 rfl (el 111 rfl (el 9 rfl (el 113 rfl (el 512 rfl en))))) ?_
    refine tri_if rfl (fun hd => ?_) (fun hd => ?_)
    · have hmj : (b.getD j (cL (cZi kb)).dflt).length = m := hm j (by omega)
      have hRl := hR.len
      refine tri_skip ?_
      refine nx (sl 0 rfl (sl 2 rfl (sl 4 rfl (sl 5 rfl (sl 6 rfl (sl 7 rfl (sl 16 rfl (sl 17 rfl sn)))))))) (el 10 rfl (el 111 rfl (el 9 rfl (el 113 rfl (el 512 rfl en))))) ?_
      refine tri_seq ?_
      refine tri_block ?_
      refine tri_seq ?_
      refine tri_reg mixed hcx ?_ _ _
      refine mv rfl ?_
      refine mv rfl ?_
      refine ix rfl rfl slZss ⟨rfl, by omega⟩ ?_
      refine lf rfl tyZs ?_
      refine mv rfl ?_
      refine mv rfl ?_
      refine ix rfl rfl slZss ⟨rfl, by omega⟩ ?_
      refine lf rfl tyZs ?_
      refine ca rfl (h := mat_Dot (by omega) (by omega) (by omega) (by omega)) (hn := ?_)
      refine mv rfl ?_
      refine ex rfl rfl ?_
      refine ex rfl rfl ?_
      refine nw 922 zeZ ?_
      refine st rfl rfl rfl tyZ rfl ?_
      refine asg rfl ?_
      refine ⟨by kernel_rfl, ?_⟩
      refine nx (sl 0 rfl (sl 2 rfl (sl 4 rfl (sl 5 rfl (sl 6 rfl (sl 7 rfl (sl 8 rfl (sl 16 rfl (sl 17 rfl sn))))))))) (el 10 rfl (el 111 rfl (el 9 rfl (el 113 rfl (el 512 rfl (el 922 rfl en)))))) ?_
      refine tri_seq ?_
      refine tri_seq ?_
      refine tri_bz 922 rfl fun hz0 => ?_
      have hzS : zl (dotU (b.getD i []) (b.getD j []) (b.getD i []).length) ≤ S := hS i j (by omega) (by omega)
      refine tri_reg mixed hcx ?_ _ _
      refine asg rfl ?_
      refine ⟨by kernel_rfl, ?_⟩
      refine nx (sl 0 rfl (sl 2 rfl (sl 4 rfl (sl 5 rfl (sl 6 rfl (sl 7 rfl (sl 8 rfl (sl 10 rfl (sl 16 rfl (sl 17 rfl sn)))))))))) (el 10 rfl (el 111 rfl (el 9 rfl (el 113 rfl (el 512 rfl (el 922 rfl en)))))) ?_
      refine tri_block ?_
      refine tri_loop (ι := Nat) (fun q => [(0, T.l (cL (cZi kb)) b), (2, T.p 10 0), (4, T.p 113 0), (5, T.c (.int .i64 (i : Int))), (6, T.o 512), (7, T.c (.int .i64 (j : Int))), (8, T.p 922 0), (10, T.c (.int .i64 (q : Int))), (16, T.c (.int .i64 (b.length : Int))), (17, T.c (.int .i64 (i : Int)))]) (fun q => [(10, some (Ent.box 54 [T.c (.slice none 0 0), T.c (.slice none 0 0)])), (111, some (Ent.row (cZ K) 26 (D))), (9, some (Ent.row (cL (cZ K)) 38 (L))), (113, some (Ent.box 54 [T.o 111, T.o 9])), (512, some (Ent.row (cZ K) 26 ((rowU b D L i j)))), (922, some (Ent.box 26 [T.Z (redU D (pickL L (rowU b D L i j) i j) (rowU b D L i j) (dotU (b.getD i []) (b.getD j []) (b.getD i []).length) q) K]))]) (fun q => j - q) (fun q => (q ≤ j)) 0 (Nat.zero_le _) (sl 0 rfl (sl 2 rfl (sl 4 rfl (sl 5 rfl (sl 6 rfl (sl 7 rfl (sl 8 rfl (sl 10 rfl (sl 16 rfl (sl 17 rfl sn)))))))))) (el 10 rfl (el 111 rfl (el 9 rfl (el 113 rfl (el 512 rfl (ew 922 rfl (box_pack1 (show (T.Z _ _).le (T.Z (dotU (b.getD i []) (b.getD j []) (b.getD i []).length) K) from z_as (Nat.le_trans hzS hSK))) en)))))) ?_
      rintro q hq
      refine tri_sub (sl 0 rfl (sl 2 rfl (sl 4 rfl (sl 5 rfl (sl 6 rfl (sl 7 rfl (sl 8 rfl (sl 10 rfl (sl 16 rfl (sl 17 rfl sn)))))))))) (el 10 rfl (el 111 rfl (el 9 rfl (el 113 rfl (el 512 rfl (el 922 rfl en)))))) ?_
      refine tri_seq ?_
      refine tri_seq ?_
      refine tri_reg mixed hcx ?_ _ _
      refine mv rfl ?_
      refine mv rfl ?_
      refine clt rfl rfl rfl ?_
      refine ⟨by kernel_rfl, ?_⟩
      refine nx (sl 0 rfl (sl 2 rfl (sl 4 rfl (sl 5 rfl (sl 6 rfl (sl 7 rfl (sl 8 rfl (sl 10 rfl (sl 16 rfl (sl 17 rfl (sl 42 rfl sn))))))))))) (el 10 rfl (el 111 rfl (el 9 rfl (el 113 rfl (el 512 rfl (el 922 rfl en)))))) ?_
      refine tri_if rfl (fun he => ?_) (fun he => ?_)
      · have hDq : D.getD q (cZ K).dflt ≠ 0 := Int.ne_of_gt (hB.pos q (by omega))
        refine tri_skip ?_
        refine nx (sl 0 rfl (sl 2 rfl (sl 4 rfl (sl 5 rfl (sl 6 rfl (sl 7 rfl (sl 8 rfl (sl 10 rfl (sl 16 rfl (sl 17 rfl sn)))))))))) (el 10 rfl (el 111 rfl (el 9 rfl (el 113 rfl (el 512 rfl (el 922 rfl en)))))) ?_
        refine tri_seq ?_
        refine tri_block ?_
        refine tri_seq ?_
        refine tri_reg mixed hcx ?_ _ _
        refine mv rfl ?_
        refine asg rfl ?_
        refine ⟨by kernel_rfl, ?_⟩
        refine nx (sl 0 rfl (sl 2 rfl (sl 4 rfl (sl 5 rfl (sl 6 rfl (sl 7 rfl (sl 8 rfl (sl 10 rfl (sl 11 rfl (sl 16 rfl (sl 17 rfl sn))))))))))) (el 10 rfl (el 111 rfl (el 9 rfl (el 113 rfl (el 512 rfl (el 922 rfl en)))))) ?_
        refine tri_seq ?_
        refine tri_seq ?_
        refine tri_reg mixed hcx ?_ _ _
        refine mv rfl ?_
        refine mv rfl ?_
        refine clt rfl rfl rfl ?_
        refine ⟨by kernel_rfl, ?_⟩
        refine nx (sl 0 rfl (sl 2 rfl (sl 4 rfl (sl 5 rfl (sl 6 rfl (sl 7 rfl (sl 8 rfl (sl 10 rfl (sl 11 rfl (sl 16 rfl (sl 17 rfl (sl 48 rfl sn)))))))))))) (el 10 rfl (el 111 rfl (el 9 rfl (el 113 rfl (el 512 rfl (el 922 rfl en)))))) ?_
        refine tri_if rfl (fun hf => ?_) (fun hf => ?_)
        · have hLj : (L.getD j (cL (cZ K)).dflt).length = j := hB.lL j (by omega)
          refine tri_reg mixed hcx ?_ _ _
          refine fa rfl fL 1 ?_
          refine ld rfl rfl tyZss rfl ?_
          refine mv rfl ?_
          refine ixo rfl rfl rfl slZss ⟨rfl, by omega⟩ ?_
          refine lo _ rfl rfl tyZs ⟨rfl, rfl, by omega⟩ ?_
          refine asg rfl ?_
          refine ⟨by kernel_rfl, ?_⟩
          refine nx (sl 0 rfl (sl 2 rfl (sl 4 rfl (sl 5 rfl (sl 6 rfl (sl 7 rfl (sl 8 rfl (sl 10 rfl (sl 11 rfl (sl 16 rfl (sl 17 rfl sn))))))))))) (el 10 rfl (el 111 rfl (el 9 rfl (el 113 rfl (el 512 rfl (el 922 rfl en)))))) ?_
          refine tri_seq ?_
          refine tri_reg mixed hcx ?_ _ _
          refine fa rfl fD 0 ?_
          refine ld rfl rfl tyZs rfl ?_
          refine mv rfl ?_
          refine ad (((q + 1 : Nat) : Int)) rfl rfl rfl (by omega) ?_
          refine ixo rfl rfl rfl slZs ⟨rfl, by omega⟩ ?_
          refine lo _ rfl rfl tyZ ⟨rfl, rfl, by omega⟩ ?_
          refine ld rfl rfl tyZ rfl ?_
          refine ca rfl (h := zi_Mul (by omega) (by omega)) (hn := ?_)
          refine mv rfl ?_
          refine mv rfl ?_
          refine ixo rfl rfl rfl slZs ⟨rfl, by omega⟩ ?_
          refine lo _ rfl rfl tyZ ⟨rfl, rfl, by omega⟩ ?_
          refine mv rfl ?_
          refine mv rfl ?_
          refine ix rfl rfl slZs ⟨rfl, by omega⟩ ?_
          refine lf rfl tyZ ?_
          refine ca rfl (h := zi_Mul (by omega) (by omega)) (hn := ?_)
          refine ca rfl (h := zi_Sub (by omega) (by omega)) (hn := ?_)
          refine st rfl rfl rfl tyZ rfl ?_
          refine ⟨by kernel_rfl, ?_⟩
          refine nx (sl 0 rfl (sl 2 rfl (sl 4 rfl (sl 5 rfl (sl 6 rfl (sl 7 rfl (sl 8 rfl (sl 10 rfl (sl 16 rfl (sl 17 rfl sn)))))))))) (el 10 rfl (el 111 rfl (el 9 rfl (el 113 rfl (el 512 rfl (el 922 rfl en)))))) ?_
          refine tri_reg mixed hcx ?_ _ _
          refine ld rfl rfl tyZ rfl ?_
          refine fa rfl fD 0 ?_
          refine ld rfl rfl tyZs rfl ?_
          refine mv rfl ?_
          refine ixo rfl rfl rfl slZs ⟨rfl, by omega⟩ ?_
          refine lo _ rfl rfl tyZ ⟨rfl, rfl, by omega⟩ ?_
          refine ca rfl (h := zi_Floor (by assumption) (by omega) (by omega)) (hn := ?_)
          refine mv rfl ?_
          refine ex rfl rfl ?_
          refine ex rfl rfl ?_
          refine ex rfl rfl ?_
          refine st rfl rfl rfl tyZ rfl ?_
          refine ⟨by kernel_rfl, ?_⟩
          refine pn_blk ?_
          refine nx (sl 0 rfl (sl 2 rfl (sl 4 rfl (sl 5 rfl (sl 6 rfl (sl 7 rfl (sl 8 rfl (sl 10 rfl (sl 16 rfl (sl 17 rfl sn)))))))))) (el 10 rfl (el 111 rfl (el 9 rfl (el 113 rfl (el 512 rfl (el 922 rfl en)))))) ?_
          refine tri_reg mixed hcx ?_ _ _
          refine mv rfl ?_
          refine ad (((q + 1 : Nat) : Int)) rfl rfl rfl (by omega) ?_
          refine asg rfl ?_
          refine ⟨by kernel_rfl, ?_⟩
          exact pn_back (q + 1) (by first | omega | (dsimp only; omega)) (by omega) (sl 0 rfl (sl 2 rfl (sl 4 rfl (sl 5 rfl (sl 6 rfl (sl 7 rfl (sl 8 rfl (sl 10 rfl (sl 16 rfl (sl 17 rfl sn)))))))))) (el 10 rfl (el 111 rfl (el 9 rfl (el 113 rfl (el 512 rfl (ew 922 rfl (box_pack1 (z_to (by show _ = stepU D (pickL L (rowU b D L i j) i j) (rowU b D L i j) q (redU D (pickL L (rowU b D L i j) i j) (rowU b D L i j) (dotU (b.getD i []) (b.getD j []) (b.getD i []).length) q); unfold stepU; rw [show pickL L (rowU b D L i j) i j = L.getD j [] from if_pos (show j < i by omega)]; rfl) (Nat.le_trans (red_bd (k := q + 1) hB hR (by omega) hzS (by omega)) (Nat.le_trans (bd_mono (by omega)) hK1)))) en))))))
        · refine tri_skip ?_
          refine nx (sl 0 rfl (sl 2 rfl (sl 4 rfl (sl 5 rfl (sl 6 rfl (sl 7 rfl (sl 8 rfl (sl 10 rfl (sl 11 rfl (sl 16 rfl (sl 17 rfl sn))))))))))) (el 10 rfl (el 111 rfl (el 9 rfl (el 113 rfl (el 512 rfl (el 922 rfl en)))))) ?_
          refine tri_seq ?_
          refine tri_reg mixed hcx ?_ _ _
          refine fa rfl fD 0 ?_
          refine ld rfl rfl tyZs rfl ?_
          refine mv rfl ?_
          refine ad (((q + 1 : Nat) : Int)) rfl rfl rfl (by omega) ?_
          refine ixo rfl rfl rfl slZs ⟨rfl, by omega⟩ ?_
          refine lo _ rfl rfl tyZ ⟨rfl, rfl, by omega⟩ ?_
          refine ld rfl rfl tyZ rfl ?_
          refine ca rfl (h := zi_Mul (by omega) (by omega)) (hn := ?_)
          refine mv rfl ?_
          refine mv rfl ?_
          refine ixo rfl rfl rfl slZs ⟨rfl, by omega⟩ ?_
          refine lo _ rfl rfl tyZ ⟨rfl, rfl, by omega⟩ ?_
          refine mv rfl ?_
          refine mv rfl ?_
          refine ixo rfl rfl rfl slZs ⟨rfl, by omega⟩ ?_
          refine lo _ rfl rfl tyZ ⟨rfl, rfl, by omega⟩ ?_
          refine ca rfl (h := zi_Mul (by omega) (by omega)) (hn := ?_)
          refine ca rfl (h := zi_Sub (by omega) (by omega)) (hn := ?_)
          refine st rfl rfl rfl tyZ rfl ?_
          refine ⟨by kernel_rfl, ?_⟩
          refine nx (sl 0 rfl (sl 2 rfl (sl 4 rfl (sl 5 rfl (sl 6 rfl (sl 7 rfl (sl 8 rfl (sl 10 rfl (sl 16 rfl (sl 17 rfl sn)))))))))) (el 10 rfl (el 111 rfl (el 9 rfl (el 113 rfl (el 512 rfl (el 922 rfl en)))))) ?_
          refine tri_reg mixed hcx ?_ _ _
          refine ld rfl rfl tyZ rfl ?_
          refine fa rfl fD 0 ?_
          refine ld rfl rfl tyZs rfl ?_
          refine mv rfl ?_
          refine ixo rfl rfl rfl slZs ⟨rfl, by omega⟩ ?_
          refine lo _ rfl rfl tyZ ⟨rfl, rfl, by omega⟩ ?_
          refine ca rfl (h := zi_Floor (by assumption) (by omega) (by omega)) (hn := ?_)
          refine mv rfl ?_
          refine ex rfl rfl ?_
          refine ex rfl rfl ?_
          refine ex rfl rfl ?_
          refine st rfl rfl rfl tyZ rfl ?_
          refine ⟨by kernel_rfl, ?_⟩
          refine pn_blk ?_
          refine nx (sl 0 rfl (sl 2 rfl (sl 4 rfl (sl 5 rfl (sl 6 rfl (sl 7 rfl (sl 8 rfl (sl 10 rfl (sl 16 rfl (sl 17 rfl sn)))))))))) (el 10 rfl (el 111 rfl (el 9 rfl (el 113 rfl (el 512 rfl (el 922 rfl en)))))) ?_
          refine tri_reg mixed hcx ?_ _ _
          refine mv rfl ?_
          refine ad (((q + 1 : Nat) : Int)) rfl rfl rfl (by omega) ?_
          refine asg rfl ?_
          refine ⟨by kernel_rfl, ?_⟩
          exact pn_back (q + 1) (by first | omega | (dsimp only; omega)) (by omega) (sl 0 rfl (sl 2 rfl (sl 4 rfl (sl 5 rfl (sl 6 rfl (sl 7 rfl (sl 8 rfl (sl 10 rfl (sl 16 rfl (sl 17 rfl sn)))))))))) (el 10 rfl (el 111 rfl (el 9 rfl (el 113 rfl (el 512 rfl (ew 922 rfl (box_pack1 (z_to (by show _ = stepU D (pickL L (rowU b D L i j) i j) (rowU b D L i j) q (redU D (pickL L (rowU b D L i j) i j) (rowU b D L i j) (dotU (b.getD i []) (b.getD j []) (b.getD i []).length) q); unfold stepU; rw [show pickL L (rowU b D L i j) i j = (rowU b D L i j) from if_neg (show ¬ j < i by omega)]; rfl) (Nat.le_trans (red_bd (k := q + 1) hB hR (by omega) hzS (by omega)) (Nat.le_trans (bd_mono (by omega)) hK1)))) en))))))
      · refine tri_exit ?_
        repeat (first | refine pn_then ?_ | refine pn_oth (by decide) ?_)
        refine pn_ex ?_
        have hqj : q = j := by omega
        refine nx (sl 0 rfl (sl 2 rfl (sl 4 rfl (sl 5 rfl (sl 6 rfl (sl 7 rfl (sl 8 rfl (sl 16 rfl (sl 17 rfl sn))))))))) (el 10 rfl (el 111 rfl (el 9 rfl (el 113 rfl (el 512 rfl (el 922 rfl en)))))) ?_
        refine tri_reg mixed hcx ?_ _ _
        refine mv rfl ?_
        refine ld rfl rfl tyZ rfl ?_
        refine bs (c := cZ K) (xs := [redU D (pickL L (rowU b D L i j) i j) (rowU b D L i j) (dotU (b.getD i []) (b.getD j []) (b.getD i []).length) j]) slZs rfl ⟨.of (by rw [hqj]; rfl), trivial⟩ ?_
        refine ap 1813 rfl rfl rfl slZs (by simp only [List.length_cons, List.length_nil]; omega) (by decide) ?_
        refine asg rfl ?_
        refine ⟨by kernel_rfl, ?_⟩
        refine pn_blk ?_
        refine nx (sl 0 rfl (sl 2 rfl (sl 4 rfl (sl 5 rfl (sl 6 rfl (sl 7 rfl (sl 16 rfl (sl 17 rfl sn)))))))) (el 10 rfl (el 111 rfl (el 9 rfl (el 113 rfl (el 922 rfl (el 1813 rfl en)))))) ?_
        refine tri_reg mixed hcx ?_ _ _
        refine mv rfl ?_
        refine ad (((j + 1 : Nat) : Int)) rfl rfl rfl (by omega) ?_
        refine asg rfl ?_
        refine ⟨by kernel_rfl, ?_⟩
        refine pn_sub (sl 0 rfl (sl 2 rfl (sl 4 rfl (sl 5 rfl (sl 6 rfl (sl 7 rfl (sl 16 rfl (sl 17 rfl sn)))))))) (el 10 rfl (el 111 rfl (el 9 rfl (el 113 rfl (el 922 rfl (el 1813 rfl en)))))) ?_
        refine pn_ren 6 512 1813 rfl rfl (by rw [hcx]; kernel_rfl) ?_
        exact pn_back (j + 1) (by first | omega | (dsimp only; omega)) ⟨by omega, hR.snoc (red_bd hB hR (by omega) hzS (Nat.le_refl _))⟩ (sl 0 rfl (sl 2 rfl (sl 4 rfl (sl 5 rfl (sl 6 rfl (sl 7 rfl (sl 16 rfl (sl 17 rfl sn)))))))) (el 10 rfl (el 111 rfl (el 9 rfl (el 113 rfl (el 512 rfl en)))))
    · refine tri_exit ?_
      repeat (first | refine pn_then ?_ | refine pn_oth (by decide) ?_)
      refine pn_ex ?_
      have hji : j = i + 1 := by omega
      subst hji
      have hRl := hR.len; have hsp : sg ((rowU b D L i (i + 1)).getD i (cZ K).dflt) = 1 := sg_pos hpos
      refine nx (sl 0 rfl (sl 2 rfl (sl 4 rfl (sl 5 rfl (sl 6 rfl (sl 16 rfl (sl 17 rfl sn))))))) (el 10 rfl (el 111 rfl (el 9 rfl (el 113 rfl (el 512 rfl en))))) ?_
      refine tri_seq ?_
      refine tri_seq ?_
      refine tri_reg mixed hcx ?_ _ _
      refine mv rfl ?_
      refine mv rfl ?_
      refine ixo rfl rfl rfl slZs ⟨rfl, by omega⟩ ?_
      refine lo _ rfl rfl tyZ ⟨rfl, rfl, by omega⟩ ?_
      refine ca rfl (h := zi_Sign (by omega)) (hn := ?_)
      refine cle rfl rfl (decide_eq_false (by omega)) ?_
      refine ⟨by kernel_rfl, ?_⟩
      refine nx (sl 0 rfl (sl 2 rfl (sl 4 rfl (sl 5 rfl (sl 6 rfl (sl 16 rfl (sl 17 rfl (sl 92 rfl sn)))))))) (el 10 rfl (el 111 rfl (el 9 rfl (el 113 rfl (el 512 rfl en))))) ?_
      refine tri_false rfl rfl ?_
      refine tri_skip ?_
      refine nx (sl 0 rfl (sl 2 rfl (sl 4 rfl (sl 5 rfl (sl 6 rfl (sl 16 rfl (sl 17 rfl sn))))))) (el 10 rfl (el 111 rfl (el 9 rfl (el 113 rfl (el 512 rfl en))))) ?_
      refine tri_seq ?_
      refine tri_fz 512 rfl ?_
      refine tri_rd 6 512 rfl rfl ?_
      refine tri_reg mixed hcx ?_ _ _
      refine fa rfl fD 0 ?_
      refine ld rfl rfl tyZs rfl ?_
      refine mv rfl ?_
      refine mv rfl ?_
      refine ix rfl rfl slZs ⟨rfl, by omega⟩ ?_
      refine lf rfl tyZ ?_
      refine bs (c := cZ K) (xs := [(rowU b D L i (i + 1)).getD i 0]) slZs rfl ⟨.refl _, trivial⟩ ?_
      refine ap 2117 rfl rfl rfl slZs (by simp only [List.length_cons, List.length_nil]; omega) (by decide) ?_
      refine fa rfl fD 0 ?_
      refine st rfl rfl rfl tyZs rfl ?_
      refine ⟨by kernel_rfl, ?_⟩
      refine nx (sl 0 rfl (sl 2 rfl (sl 4 rfl (sl 5 rfl (sl 6 rfl (sl 16 rfl (sl 17 rfl sn))))))) (el 10 rfl (el 9 rfl (el 113 rfl (el 2117 rfl en)))) ?_
      refine tri_reg mixed hcx ?_ _ _
      refine fa rfl fL 1 ?_
      refine ld rfl rfl tyZss rfl ?_
      refine mv rfl ?_
      refine mv rfl ?_
      refine mv rfl ?_
      refine sh3 rfl slZs rfl rfl ⟨rfl, rfl, by omega⟩ ?_
      refine bs (c := cL (cZ K)) (xs := [(rowU b D L i (i + 1)).take i]) slZss rfl ⟨.refl _, trivial⟩ ?_
      refine ap 2217 rfl rfl rfl slZss (by simp only [List.length_cons, List.length_nil]; omega) (by decide) ?_
      refine fa rfl fL 1 ?_
      refine st rfl rfl rfl tyZss rfl ?_
      refine ⟨by kernel_rfl, ?_⟩
      refine pn_blk ?_
      refine nx (sl 0 rfl (sl 2 rfl (sl 4 rfl (sl 16 rfl (sl 17 rfl sn))))) (el 10 rfl (el 113 rfl (el 2117 rfl (el 2217 rfl en)))) ?_
      refine tri_reg mixed hcx ?_ _ _
      refine ad _ rfl rfl rfl ⟨rfl, by omega, by omega⟩ ?_
      refine mv rfl ?_
      refine ⟨by kernel_rfl, ?_⟩
      refine pn_sub (sl 0 rfl (sl 2 rfl (sl 4 rfl (sl 16 rfl (sl 17 rfl sn))))) (el 10 rfl (el 113 rfl (el 2117 rfl (el 2217 rfl en)))) ?_
      refine pn_renb (bl := [T.o 2117, T.o 2217]) (bl' := [T.o 111, T.o 2217]) 113 111 2117 rfl rfl ⟨.inr ⟨rfl, rfl⟩, .inl ⟨rfl, by show 111 ∉ [2217]; decide⟩, trivial⟩ (by rw [hcx]; kernel_rfl) rfl ?_
      refine pn_renb (bl := [T.o 111, T.o 2217]) (bl' := [T.o 111, T.o 9]) 113 9 2217 rfl rfl ⟨.inl ⟨rfl, by show 9 ∉ [111]; decide⟩, .inr ⟨rfl, rfl⟩, trivial⟩ (by rw [hcx]; kernel_rfl) rfl ?_
      exact pn_back (i + 1, D ++ [(rowU b D L i (i + 1)).getD i 0], L ++ [(rowU b D L i (i + 1)).take i]) (by dsimp only; omega) ⟨by omega, hnx, hB.step hR hpos⟩ (sl 0 rfl (sl 2 rfl (sl 4 rfl (sl 16 rfl (sl 17 rfl sn))))) (el 10 rfl (el 111 rfl (el 9 rfl (el 113 rfl en))))
  · refine tri_exit ?_
    repeat (first | refine pn_then ?_ | refine pn_oth (by decide) ?_)
    refine pn_ex ?_
    have hin : i = b.length := by omega
    rw [hin, h] at hb; cases hb
    refine nx (sl 2 rfl (sl 4 rfl sn)) (el 10 rfl (el 111 rfl (el 9 rfl (el 113 rfl en)))) ?_
    refine tri_seq ?_
    refine tri_fz 111 rfl ?_
    refine tri_rdb (bl := [T.o 111, T.o 9]) (bl' := [T.l (cZ K) D0, T.o 9]) 113 111 rfl rfl ⟨.inr ⟨rfl, rfl⟩, .inl rfl, trivial⟩ ?_
    refine tri_fz 9 rfl ?_
    refine tri_rdb (bl := [T.l (cZ K) D0, T.o 9]) (bl' := [T.l (cZ K) D0, T.l (cL (cZ K)) L0]) 113 9 rfl rfl ⟨.inl rfl, .inr ⟨rfl, rfl⟩, trivial⟩ ?_
    refine tri_reg mixed hcx ?_ _ _
    refine ld rfl rfl tyG rfl ?_
    refine st rfl rfl rfl tyG rfl ?_
    refine asg rfl ?_
    refine ⟨by kernel_rfl, ?_⟩
    refine nx (sl 2 rfl (sl 3 rfl sn)) (el 10 rfl (el 113 rfl en)) ?_
    refine tri_ret ?_
    repeat (first | refine pn_thenr ?_ | refine pn_blkr ?_)
    exact ret2 hcx rfl (rv_cell (c' := cx) (n := 0) rfl rfl tyG rfl) (rv_tmp rfl) (.refl _) en
end Go.Proofs.YtmfgnbchehnpjaaGreat.V
/- What a basis is; the law is awake. -/
set_option linter.unusedVariables false
set_option linter.unusedSimpArgs false
set_option maxRecDepth 100000
namespace Go.Proofs.YtmfgnbchehnpjaaGreat.V
open Go.RowKit Mt Nml
/-- The most bits. -/
def mxB (l : List Int) (a : Nat) : Nat → Nat
  | 0 => a
  | j + 1 => max (mxB l a j) (nbits (l.getD j 0).natAbs)
def matB (b : List (List Int)) : Nat → Nat
  | 0 => 0
  | i + 1 => mxB (b.getD i []) (matB b i) (b.getD i []).length

theorem mat_Bits {b : List (List Int)} {k : Nat} (hk : k ≤ 1048576) (hb : b.length ≤ 1048576) (hr : ∀ i, i < b.length → (b.getD i []).length ≤ 1048576) : Fn Tryz.prog 76 [T.l (cL (cZi k)) b] [] [] [] (T.c (.int .i64 ((matB b b.length : Nat) : Int))) := by
  refine fn_of Tryz.func76 rfl (by show 1 ≤ 27; decide) fun cx hcx => ?_
  refine tri_sub (sl 0 rfl sn) en ?_
  refine tri_seq ?_
  refine tri_reg mixed hcx ?_ _ _
  refine asg rfl ?_
  refine ⟨by kernel_rfl, ?_⟩
  refine nx (sl 0 rfl sn) en ?_
  refine tri_seq ?_
  refine tri_reg mixed hcx ?_ _ _
  refine asg rfl ?_
  refine ⟨by kernel_rfl, ?_⟩
  refine nx (sl 0 rfl (sl 3 rfl sn)) en ?_
  refine tri_seq ?_
  refine tri_seq ?_
  refine tri_reg mixed hcx ?_ _ _
  refine mv rfl ?_
  refine ln slZss rfl ?_
  refine mv rfl ?_
  refine ⟨by kernel_rfl, ?_⟩
  refine nx (sl 3 rfl (sl 8 rfl (sl 9 rfl (sl 10 rfl sn)))) en ?_
  refine tri_block ?_
  refine tri_loop (ι := Nat) (fun i => [(3, T.c (.int .i64 ((matB b i : Nat) : Int))), (8, T.l (cL (cZi k)) b), (9, T.c (.int .i64 (b.length : Int))), (10, T.c (.int .i64 (i : Int)))]) (fun i => []) (fun i => b.length - i) (fun i => (i ≤ b.length)) 0 (Nat.zero_le _) (sl 3 rfl (sl 8 rfl (sl 9 rfl (sl 10 rfl sn)))) en ?_
  rintro i hi
  refine tri_sub (sl 3 rfl (sl 8 rfl (sl 9 rfl (sl 10 rfl sn)))) en ?_
  refine tri_seq ?_
  refine tri_reg mixed hcx ?_ _ _
  refine clt rfl rfl rfl ?_
  refine ⟨by kernel_rfl, ?_⟩
  refine nx (sl 3 rfl (sl 8 rfl (sl 9 rfl (sl 10 rfl (sl 11 rfl sn))))) en ?_
  refine tri_seq ?_
  refine tri_if rfl (fun hc => ?_) (fun hc => ?_)
  · have hri : (b.getD i (cL (cZi k)).dflt).length ≤ 1048576 := hr i (by omega)
    refine tri_skip ?_
    refine nx (sl 3 rfl (sl 8 rfl (sl 9 rfl (sl 10 rfl sn)))) en ?_
    refine tri_seq ?_
    refine tri_block ?_
    refine tri_seq ?_
    refine tri_reg mixed hcx ?_ _ _
    refine ix rfl rfl slZss ⟨rfl, by omega⟩ ?_
    refine lf rfl tyZs ?_
    refine asg rfl ?_
    refine ⟨by kernel_rfl, ?_⟩
    refine nx (sl 3 rfl (sl 5 rfl (sl 8 rfl (sl 9 rfl (sl 10 rfl sn))))) en ?_
    refine tri_seq ?_
    refine tri_reg mixed hcx ?_ _ _
    refine mv rfl ?_
    refine ln slZs rfl ?_
    refine mv rfl ?_
    refine ⟨by kernel_rfl, ?_⟩
    refine nx (sl 3 rfl (sl 8 rfl (sl 9 rfl (sl 10 rfl (sl 14 rfl (sl 15 rfl (sl 16 rfl sn))))))) en ?_
    refine tri_block ?_
    refine tri_loop (ι := Nat) (fun j => [(3, T.c (.int .i64 ((mxB (b.getD i []) (matB b i) j : Nat) : Int))), (8, T.l (cL (cZi k)) b), (9, T.c (.int .i64 (b.length : Int))), (10, T.c (.int .i64 (i : Int))), (14, T.l (cZi k) (b.getD i [])), (15, T.c (.int .i64 ((b.getD i []).length : Int))), (16, T.c (.int .i64 (j : Int)))]) (fun j => []) (fun j => (b.getD i []).length - j) (fun j => (j ≤ (b.getD i []).length)) 0 (Nat.zero_le _) (sl 3 rfl (sl 8 rfl (sl 9 rfl (sl 10 rfl (sl 14 rfl (sl 15 rfl (sl 16 rfl sn))))))) en ?_
    rintro j hj
    refine tri_sub (sl 3 rfl (sl 8 rfl (sl 9 rfl (sl 10 rfl (sl 14 rfl (sl 15 rfl (sl 16 rfl sn))))))) en ?_
    refine tri_seq ?_
    refine tri_reg mixed hcx ?_ _ _
    refine clt rfl rfl rfl ?_
    refine ⟨by kernel_rfl, ?_⟩
    refine nx (sl 3 rfl (sl 8 rfl (sl 9 rfl (sl 10 rfl (sl 14 rfl (sl 15 rfl (sl 16 rfl (sl 17 rfl sn)))))))) en ?_
    refine tri_seq ?_
    refine tri_if rfl (fun hd => ?_) (fun hd => ?_)
    · have hri2 : (b.getD i []).length ≤ 1048576 := hri
      refine tri_skip ?_
      refine nx (sl 3 rfl (sl 8 rfl (sl 9 rfl (sl 10 rfl (sl 14 rfl (sl 15 rfl (sl 16 rfl sn))))))) en ?_
      refine tri_seq ?_
      refine tri_block ?_
      refine tri_seq ?_
      refine tri_reg mixed hcx ?_ _ _
      refine ix rfl rfl slZs ⟨rfl, by omega⟩ ?_
      refine lf rfl tyZ ?_
      refine nw 712 zeZ ?_
      refine st rfl rfl rfl tyZ rfl ?_
      refine ⟨by kernel_rfl, ?_⟩
      refine nx (sl 3 rfl (sl 7 rfl (sl 8 rfl (sl 9 rfl (sl 10 rfl (sl 14 rfl (sl 15 rfl (sl 16 rfl sn)))))))) (el 712 rfl en) ?_
      refine tri_reg mixed hcx ?_ _ _
      refine mv rfl ?_
      refine ld rfl rfl tyZ rfl ?_
      refine ca rfl (h := zi_Bits (by omega)) (hn := ?_)
      refine mxb ((max (mxB (b.getD i []) (matB b i) j) (nbits ((b.getD i []).getD j 0).natAbs) : Nat) : Int) rfl rfl (by show max ((mxB (b.getD i []) (matB b i) j : Nat) : Int) ((nbits ((b.getD i []).getD j 0).natAbs : Nat) : Int) = _; omega) ?_
      refine asg rfl ?_
      refine ⟨by kernel_rfl, ?_⟩
      refine pn_blk ?_
      refine nx (sl 3 rfl (sl 8 rfl (sl 9 rfl (sl 10 rfl (sl 14 rfl (sl 15 rfl (sl 16 rfl sn))))))) (el 712 rfl en) ?_
      refine tri_reg mixed hcx ?_ _ _
      refine ad (((j + 1 : Nat) : Int)) rfl rfl rfl (by omega) ?_
      refine mv rfl ?_
      refine ⟨by kernel_rfl, ?_⟩
      exact pn_back (j + 1) (by first | omega | (dsimp only; omega)) (by omega) (sl 3 rfl (sl 8 rfl (sl 9 rfl (sl 10 rfl (sl 14 rfl (sl 15 rfl (sl 16 rfl sn))))))) en
    · refine tri_exit ?_
      repeat (first | refine pn_then ?_ | refine pn_oth (by decide) ?_)
      refine pn_ex ?_
      have hj2 : j = (b.getD i []).length := by omega
      refine pn_blk ?_
      refine nx (sl 3 rfl (sl 8 rfl (sl 9 rfl (sl 10 rfl sn)))) en ?_
      refine tri_reg mixed hcx ?_ _ _
      refine ad (((i + 1 : Nat) : Int)) rfl rfl rfl (by omega) ?_
      refine mv rfl ?_
      refine ⟨by kernel_rfl, ?_⟩
      exact pn_back (i + 1) (by first | omega | (dsimp only; omega)) (by omega) (sw 3 rfl (ci (by rw [hj2]; rfl)) (sl 8 rfl (sl 9 rfl (sl 10 rfl sn)))) en
  · refine tri_exit ?_
    repeat (first | refine pn_then ?_ | refine pn_oth (by decide) ?_)
    refine pn_ex ?_
    have hin : i = b.length := by omega
    subst hin
    refine nx (sl 3 rfl sn) en ?_
    refine tri_seq ?_
    refine tri_reg mixed hcx ?_ _ _
    refine mv rfl ?_
    refine asg rfl ?_
    refine ⟨by kernel_rfl, ?_⟩
    refine nx (sl 2 rfl sn) en ?_
    refine tri_ret ?_
    repeat (first | refine pn_thenr ?_ | refine pn_blkr ?_)
    exact ret1 hcx rfl (rv_tmp rfl) (.refl _) en

theorem mat_Shape {b : List (List Int)} {k m : Nat} (h0 : 0 < b.length) (hb : b.length ≤ 12) (hm : ∀ i, i < b.length → (b.getD i []).length = m) : Fn Tryz.prog 77 [T.l (cL (cZi k)) b] [] [] [] (T.tup [T.c (.int .i64 (b.length : Int)), T.c (.int .i64 (m : Int)), T.c (.int .i64 0)]) := by
  refine fn_of Tryz.func77 rfl (by show 1 ≤ 30; decide) fun cx hcx => ?_
  refine tri_sub (sl 0 rfl sn) en ?_
  have hm0 : (b.getD 0 (cL (cZi k)).dflt).length = m := hm 0 h0
  refine tri_seq ?_
  refine tri_reg mixed hcx ?_ _ _
  refine asg rfl ?_
  refine asg rfl ?_
  refine asg rfl ?_
  refine ⟨by kernel_rfl, ?_⟩
  refine nx (sl 0 rfl sn) en ?_
  refine tri_seq ?_
  refine tri_seq ?_
  refine tri_reg mixed hcx ?_ _ _
  refine mv rfl ?_
  refine ln slZss rfl ?_
  refine ceq rfl rfl (decide_eq_false (by omega)) ?_
  refine ⟨by kernel_rfl, ?_⟩
  refine nx (sl 0 rfl (sl 9 rfl sn)) en ?_
  refine tri_false rfl rfl ?_
  refine tri_skip ?_
  refine nx (sl 0 rfl sn) en ?_
  refine tri_seq ?_
  refine tri_seq ?_
  refine tri_reg mixed hcx ?_ _ _
  refine mv rfl ?_
  refine ln slZss rfl ?_
  refine mv rfl ?_
  refine ⟨by kernel_rfl, ?_⟩
  refine nx (sl 0 rfl (sl 10 rfl (sl 11 rfl (sl 12 rfl sn)))) en ?_
  refine tri_block ?_
  refine tri_loop (ι := Nat) (fun i => [(0, T.l (cL (cZi k)) b), (10, T.l (cL (cZi k)) b), (11, T.c (.int .i64 (b.length : Int))), (12, T.c (.int .i64 (i : Int)))]) (fun i => []) (fun i => b.length - i) (fun i => (i ≤ b.length)) 0 (Nat.zero_le _) (sl 0 rfl (sl 10 rfl (sl 11 rfl (sl 12 rfl sn)))) en ?_
  rintro i hi
  refine tri_sub (sl 0 rfl (sl 10 rfl (sl 11 rfl (sl 12 rfl sn)))) en ?_
  refine tri_seq ?_
  refine tri_reg mixed hcx ?_ _ _
  refine clt rfl rfl rfl ?_
  refine ⟨by kernel_rfl, ?_⟩
  refine nx (sl 0 rfl (sl 10 rfl (sl 11 rfl (sl 12 rfl (sl 13 rfl sn))))) en ?_
  refine tri_seq ?_
  refine tri_if rfl (fun hc => ?_) (fun hc => ?_)
  · have hmi : (b.getD i (cL (cZi k)).dflt).length = m := hm i (by omega)
    refine tri_skip ?_
    refine nx (sl 0 rfl (sl 10 rfl (sl 11 rfl (sl 12 rfl sn)))) en ?_
    refine tri_seq ?_
    refine tri_block ?_
    refine tri_seq ?_
    refine tri_reg mixed hcx ?_ _ _
    refine ix rfl rfl slZss ⟨rfl, by omega⟩ ?_
    refine lf rfl tyZs ?_
    refine asg rfl ?_
    refine ⟨by kernel_rfl, ?_⟩
    refine nx (sl 0 rfl (sl 6 rfl (sl 10 rfl (sl 11 rfl (sl 12 rfl sn))))) en ?_
    refine tri_seq ?_
    refine tri_reg mixed hcx ?_ _ _
    refine mv rfl ?_
    refine ln slZs rfl ?_
    refine mv rfl ?_
    refine ix rfl rfl slZss ⟨(rfl : _ = ((0 : Nat) : Int)), by omega⟩ ?_
    refine lf rfl tyZs ?_
    refine ln slZs rfl ?_
    refine cne rfl rfl (decide_eq_false (by omega)) ?_
    refine ⟨by kernel_rfl, ?_⟩
    refine nx (sl 0 rfl (sl 10 rfl (sl 11 rfl (sl 12 rfl (sl 22 rfl sn))))) en ?_
    refine tri_false rfl rfl ?_
    refine tri_skip ?_
    refine pn_blk ?_
    refine nx (sl 0 rfl (sl 10 rfl (sl 11 rfl (sl 12 rfl sn)))) en ?_
    refine tri_reg mixed hcx ?_ _ _
    refine ad (((i + 1 : Nat) : Int)) rfl rfl rfl (by omega) ?_
    refine mv rfl ?_
    refine ⟨by kernel_rfl, ?_⟩
    exact pn_back (i + 1) (by first | omega | (dsimp only; omega)) (by omega) (sl 0 rfl (sl 10 rfl (sl 11 rfl (sl 12 rfl sn)))) en
  · refine tri_exit ?_
    repeat (first | refine pn_then ?_ | refine pn_oth (by decide) ?_)
    refine pn_ex ?_
    refine nx (sl 0 rfl sn) en ?_
    refine tri_seq ?_
    refine tri_reg mixed hcx ?_ _ _
    refine mv rfl ?_
    refine ln slZss rfl ?_
    refine mv rfl ?_
    refine ix rfl rfl slZss ⟨(rfl : _ = ((0 : Nat) : Int)), by omega⟩ ?_
    refine lf rfl tyZs ?_
    refine ln slZs rfl ?_
    refine asg rfl ?_
    refine asg rfl ?_
    refine asg rfl ?_
    refine ⟨by kernel_rfl, ?_⟩
    refine nx (sl 2 rfl (sl 3 rfl (sl 4 rfl sn))) en ?_
    refine tri_ret ?_
    repeat (first | refine pn_thenr ?_ | refine pn_blkr ?_)
    exact ret3 hcx rfl (rv_tmp rfl) (rv_tmp rfl) (rv_tmp rfl) (.of (by rw [hm0])) en

theorem g_shaped {b : List (List Int)} {k m : Nat} (h0 : 0 < b.length) (hb : b.length ≤ 12) (hm : ∀ i, i < b.length → (b.getD i []).length = m) (hk : k ≤ 1048576) (hm12 : m ≤ 12) (hbits : matB b b.length ≤ 256) : Fn Tryz.prog 48 [T.l (cL (cZi k)) b, T.c (.bool true)] [] [] [] (T.c (.int .i64 0)) := by
  refine fn_of Tryz.func48 rfl (by show 2 ≤ 46; decide) fun cx hcx => ?_
  refine tri_sub (sl 0 rfl (sl 1 rfl sn)) en ?_
  have hrr : ∀ i, i < b.length → (b.getD i []).length ≤ 1048576 := fun i hi => by rw [hm i hi]; omega
  refine tri_seq ?_
  refine tri_reg mixed hcx ?_ _ _
  refine asg rfl ?_
  refine ⟨by kernel_rfl, ?_⟩
  refine nx (sl 0 rfl (sl 1 rfl sn)) en ?_
  refine tri_seq ?_
  refine tri_reg mixed hcx ?_ _ _
  refine mv rfl ?_
  refine ln slZss rfl ?_
  refine cgt rfl rfl (decide_eq_false (by omega)) ?_
  refine mv rfl ?_
  refine mv rfl ?_ (hg := gd1)
  refine mv rfl ?_ (hg := gd1)
  refine mv rfl ?_ (hg := gd1)
  refine ca rfl (h := mat_Bits (by omega) (by omega) hrr) (hn := ?_) (hg := gd1)
  refine cgt rfl rfl (decide_eq_false (by omega)) ?_ (hg := gd1)
  refine pk rfl rfl ?_ (hg := gd1)
  refine pk rfl rfl ?_
  refine asg rfl ?_
  refine ⟨by kernel_rfl, ?_⟩
  refine nx (sl 0 rfl (sl 5 rfl sn)) en ?_
  refine tri_seq ?_
  refine tri_seq ?_
  refine tri_reg mixed hcx ?_ _ _
  refine mv rfl ?_
  refine ln slZss rfl ?_
  refine mv rfl ?_
  refine ⟨by kernel_rfl, ?_⟩
  refine nx (sl 0 rfl (sl 5 rfl (sl 22 rfl (sl 23 rfl (sl 24 rfl sn))))) en ?_
  refine tri_block ?_
  refine tri_loop (ι := Nat) (fun i => [(0, T.l (cL (cZi k)) b), (5, T.c (.bool false)), (22, T.l (cL (cZi k)) b), (23, T.c (.int .i64 (b.length : Int))), (24, T.c (.int .i64 (i : Int)))]) (fun i => []) (fun i => b.length - i) (fun i => (i ≤ b.length)) 0 (Nat.zero_le _) (sl 0 rfl (sl 5 rfl (sl 22 rfl (sl 23 rfl (sl 24 rfl sn))))) en ?_
  rintro i hi
  refine tri_sub (sl 0 rfl (sl 5 rfl (sl 22 rfl (sl 23 rfl (sl 24 rfl sn))))) en ?_
  refine tri_seq ?_
  refine tri_reg mixed hcx ?_ _ _
  refine clt rfl rfl rfl ?_
  refine ⟨by kernel_rfl, ?_⟩
  refine nx (sl 0 rfl (sl 5 rfl (sl 22 rfl (sl 23 rfl (sl 24 rfl (sl 25 rfl sn)))))) en ?_
  refine tri_seq ?_
  refine tri_if rfl (fun hc => ?_) (fun hc => ?_)
  · have hmi : (b.getD i (cL (cZi k)).dflt).length = m := hm i (by omega)
    refine tri_skip ?_
    refine nx (sl 0 rfl (sl 5 rfl (sl 22 rfl (sl 23 rfl (sl 24 rfl sn))))) en ?_
    refine tri_seq ?_
    refine tri_block ?_
    refine tri_seq ?_
    refine tri_reg mixed hcx ?_ _ _
    refine ix rfl rfl slZss ⟨rfl, by omega⟩ ?_
    refine lf rfl tyZs ?_
    refine asg rfl ?_
    refine ⟨by kernel_rfl, ?_⟩
    refine nx (sl 0 rfl (sl 5 rfl (sl 7 rfl (sl 22 rfl (sl 23 rfl (sl 24 rfl sn)))))) en ?_
    refine tri_reg mixed hcx ?_ _ _
    refine mv rfl ?_
    refine mv rfl ?_
    refine mv rfl ?_ (hg := gd1)
    refine ln slZs rfl ?_ (hg := gd1)
    refine cgt rfl rfl (decide_eq_false (by omega)) ?_ (hg := gd1)
    refine pk rfl rfl ?_
    refine asg rfl ?_
    refine ⟨by kernel_rfl, ?_⟩
    refine pn_blk ?_
    refine nx (sl 0 rfl (sl 5 rfl (sl 22 rfl (sl 23 rfl (sl 24 rfl sn))))) en ?_
    refine tri_reg mixed hcx ?_ _ _
    refine ad (((i + 1 : Nat) : Int)) rfl rfl rfl (by omega) ?_
    refine mv rfl ?_
    refine ⟨by kernel_rfl, ?_⟩
    exact pn_back (i + 1) (by first | omega | (dsimp only; omega)) (by omega) (sl 0 rfl (sl 5 rfl (sl 22 rfl (sl 23 rfl (sl 24 rfl sn))))) en
  · refine tri_exit ?_
    repeat (first | refine pn_then ?_ | refine pn_oth (by decide) ?_)
    refine pn_ex ?_
    refine nx (sl 0 rfl (sl 5 rfl sn)) en ?_
    refine tri_seq ?_
    refine tri_seq ?_
    refine tri_reg mixed hcx ?_ _ _
    refine mv rfl ?_
    refine ⟨by kernel_rfl, ?_⟩
    refine nx (sl 0 rfl (sl 35 rfl sn)) en ?_
    refine tri_false rfl rfl ?_
    refine tri_skip ?_
    refine nx (sl 0 rfl sn) en ?_
    refine tri_seq ?_
    refine tri_seq ?_
    refine tri_reg mixed hcx ?_ _ _
    refine mv rfl ?_
    refine ln slZss rfl ?_
    refine ceq rfl rfl (decide_eq_false (by omega)) ?_
    refine ⟨by kernel_rfl, ?_⟩
    refine nx (sl 0 rfl (sl 38 rfl sn)) en ?_
    refine tri_false rfl rfl ?_
    refine tri_skip ?_
    refine nx (sl 0 rfl sn) en ?_
    refine tri_seq ?_
    refine tri_reg mixed hcx ?_ _ _
    refine mv rfl ?_
    refine ca rfl (h := mat_Shape h0 hb hm) (hn := ?_)
    refine mv rfl ?_
    refine ex rfl rfl ?_
    refine ex rfl rfl ?_
    refine ex rfl rfl ?_
    refine asg rfl ?_
    refine asg rfl ?_
    refine asg rfl ?_
    refine ⟨by kernel_rfl, ?_⟩
    refine nx (sl 10 rfl sn) en ?_
    refine tri_seq ?_
    refine tri_reg mixed hcx ?_ _ _
    refine mv rfl ?_
    refine asg rfl ?_
    refine ⟨by kernel_rfl, ?_⟩
    refine nx (sl 4 rfl sn) en ?_
    refine tri_ret ?_
    repeat (first | refine pn_thenr ?_ | refine pn_blkr ?_)
    exact ret1 hcx rfl (rv_tmp rfl) (.refl _) en

theorem g_of {b : List (List Int)} {D0 : List Int} {L0 : List (List Int)} {k m S K : Nat} (h0 : 0 < b.length) (hb : b.length ≤ 12) (hm : ∀ i, i < b.length → (b.getD i []).length = m) (hk : k ≤ 1048576) (hm12 : m ≤ 12) (hbits : matB b b.length ≤ 256) (h : bld b b.length = some (D0, L0)) (hS : ∀ i j, i < b.length → j ≤ i → zl (dotU (b.getD i []) (b.getD j []) (b.getD i []).length) ≤ S) (hK1 : bd S 12 ≤ K) (hK2 : K ≤ 137438953472) (hK3 : 2 ≤ K) : Fn Tryz.prog 25 [T.l (cL (cZi k)) b, T.c (.bool true)] [] [] [] (T.tup [T.st [T.l (cZ K) D0, T.l (cL (cZ K)) L0], T.c (.int .i64 0)]) := by
  refine fn_of Tryz.func25 rfl (by show 2 ≤ 25; decide) fun cx hcx => ?_
  refine tri_sub (sl 0 rfl (sl 1 rfl sn)) en ?_
  refine tri_seq ?_
  refine tri_reg mixed hcx ?_ _ _
  refine nw 10 zeG ?_
  refine asg rfl ?_
  refine ⟨by kernel_rfl, ?_⟩
  refine nx (sl 0 rfl (sl 1 rfl (sl 4 rfl sn))) (el 10 rfl en) ?_
  refine tri_seq ?_
  refine tri_seq ?_
  refine tri_reg mixed hcx ?_ _ _
  refine mv rfl ?_
  refine mv rfl ?_
  refine ca rfl (h := g_shaped h0 hb hm (by omega) (by omega) (by omega)) (hn := ?_)
  refine asg rfl ?_
  refine ⟨by kernel_rfl, ?_⟩
  refine nx (sl 0 rfl (sl 4 rfl (sl 6 rfl sn))) (el 10 rfl en) ?_
  refine tri_seq ?_
  refine tri_reg mixed hcx ?_ _ _
  refine mv rfl ?_
  refine cne rfl rfl (decide_eq_false (by omega)) ?_
  refine ⟨by kernel_rfl, ?_⟩
  refine nx (sl 0 rfl (sl 4 rfl (sl 6 rfl (sl 13 rfl sn)))) (el 10 rfl en) ?_
  refine tri_false rfl rfl ?_
  refine tri_skip ?_
  refine nx (sl 0 rfl (sl 4 rfl sn)) (el 10 rfl en) ?_
  refine tri_seq ?_
  refine tri_reg mixed hcx ?_ _ _
  refine mv rfl ?_
  refine ca rfl (h := g_built h hb hm (by omega) hk hS hK1 hK2 hK3) (hn := ?_)
  refine mv rfl ?_
  refine ex rfl rfl ?_
  refine ex rfl rfl ?_
  refine nw 415 zeG ?_
  refine st rfl rfl rfl tyG rfl ?_
  refine asg rfl ?_
  refine ⟨by kernel_rfl, ?_⟩
  refine nx (sl 4 rfl (sl 7 rfl (sl 8 rfl sn))) (el 10 rfl (el 415 rfl en)) ?_
  refine tri_seq ?_
  refine tri_seq ?_
  refine tri_reg mixed hcx ?_ _ _
  refine mv rfl ?_
  refine nt rfl _ rfl ?_
  refine ⟨by kernel_rfl, ?_⟩
  refine nx (sl 4 rfl (sl 7 rfl (sl 22 rfl sn))) (el 10 rfl (el 415 rfl en)) ?_
  refine tri_false rfl rfl ?_
  refine tri_skip ?_
  refine nx (sl 4 rfl (sl 7 rfl sn)) (el 10 rfl (el 415 rfl en)) ?_
  refine tri_seq ?_
  refine tri_reg mixed hcx ?_ _ _
  refine ld rfl rfl tyG rfl ?_
  refine st rfl rfl rfl tyG rfl ?_
  refine asg rfl ?_
  refine ⟨by kernel_rfl, ?_⟩
  refine nx (sl 4 rfl (sl 5 rfl sn)) (el 10 rfl (el 415 rfl en)) ?_
  refine tri_ret ?_
  repeat (first | refine pn_thenr ?_ | refine pn_blkr ?_)
  exact ret2 hcx rfl (rv_cell (c' := cx) (n := 0) rfl rfl tyG rfl) (rv_tmp rfl) (.refl _) en

theorem g_Of {b : List (List Int)} {D0 : List Int} {L0 : List (List Int)} {k m S K : Nat} (h0 : 0 < b.length) (hb : b.length ≤ 12) (hm : ∀ i, i < b.length → (b.getD i []).length = m) (hk : k ≤ 1048576) (hm12 : m ≤ 12) (hbits : matB b b.length ≤ 256) (h : bld b b.length = some (D0, L0)) (hS : ∀ i j, i < b.length → j ≤ i → zl (dotU (b.getD i []) (b.getD j []) (b.getD i []).length) ≤ S) (hK1 : bd S 12 ≤ K) (hK2 : K ≤ 137438953472) (hK3 : 2 ≤ K) : Fn Tryz.prog 21 [T.l (cL (cZi k)) b] [] [] [] (T.tup [T.st [T.l (cZ K) D0, T.l (cL (cZ K)) L0], T.c (.int .i64 0)]) := by
  refine fn_of Tryz.func21 rfl (by show 1 ≤ 8; decide) fun cx hcx => ?_
  refine tri_sub (sl 0 rfl sn) en ?_
  refine tri_seq ?_
  refine tri_reg mixed hcx ?_ _ _
  refine nw 10 zeG ?_
  refine asg rfl ?_
  refine ⟨by kernel_rfl, ?_⟩
  refine nx (sl 0 rfl (sl 2 rfl sn)) (el 10 rfl en) ?_
  refine tri_seq ?_
  refine tri_reg mixed hcx ?_ _ _
  refine mv rfl ?_
  refine ca rfl (h := g_of h0 hb hm hk hm12 hbits h hS hK1 hK2 hK3) (hn := ?_)
  refine ex rfl rfl ?_
  refine ex rfl rfl ?_
  refine st rfl rfl rfl tyG rfl ?_
  refine asg rfl ?_
  refine ⟨by kernel_rfl, ?_⟩
  refine nx (sl 2 rfl (sl 3 rfl sn)) (el 10 rfl en) ?_
  refine tri_ret ?_
  repeat (first | refine pn_thenr ?_ | refine pn_blkr ?_)
  exact ret2 hcx rfl (rv_cell (c' := cx) (n := 0) rfl rfl tyG rfl) (rv_tmp rfl) (.refl _) en

theorem law_square  : Fn Tryz.prog 22 [] [] [] [] (T.l (cL (cZ 2)) [[1, 1], [0, 2]]) := by
  refine fn_of Tryz.func22 rfl (by show 0 ≤ 8; decide) fun cx hcx => ?_
  refine tri_sub sn en ?_
  refine tri_seq ?_
  refine tri_reg mixed hcx ?_ _ _
  refine asg rfl ?_
  refine ⟨by kernel_rfl, ?_⟩
  refine nx sn en ?_
  refine tri_seq ?_
  refine tri_reg mixed hcx ?_ _ _
  refine ca rfl (h := law_n (by omega) (by omega)) (hn := ?_)
  refine ca rfl (h := law_n (by omega) (by omega)) (hn := ?_)
  refine bs (c := cZ 2) (xs := [1, 1]) slZs rfl ⟨.refl _, .refl _, trivial⟩ ?_
  refine ca rfl (h := law_n (by omega) (by omega)) (hn := ?_)
  refine ca rfl (h := law_n (by omega) (by omega)) (hn := ?_)
  refine bs (c := cZ 2) (xs := [0, 2]) slZs rfl ⟨.refl _, .refl _, trivial⟩ ?_
  refine bs (c := cL (cZ 2)) (xs := [[1, 1], [0, 2]]) slZss rfl ⟨.refl _, .refl _, trivial⟩ ?_
  refine asg rfl ?_
  refine ⟨by kernel_rfl, ?_⟩
  refine nx (sl 0 rfl sn) en ?_
  refine tri_ret ?_
  repeat (first | refine pn_thenr ?_ | refine pn_blkr ?_)
  exact ret1 hcx rfl (rv_tmp rfl) (.refl _) en

theorem zl_one' {z : Int} (h : z.natAbs < 4294967296) : zl z ≤ 1 := by unfold zl; exact lim_le (by unfold B; omega)
theorem zl_dotU {xs ys : List Int} {k l : Nat} (hx : ∀ i, zl (xs.getD i 0) ≤ k) (hy : ∀ i, zl (ys.getD i 0) ≤ l) : ∀ n, zl (dotU xs ys n) ≤ n * (k + l + 1)
  | 0 => by show zl 0 ≤ _; rw [show zl 0 = 0 from by unfold zl; exact lim_zero]; omega
  | n + 1 => by
    rw [Nat.succ_mul]
    exact Nat.le_trans (zl_add_max (k := n * (k + l + 1) + (k + l)) (Nat.le_trans (zl_dotU hx hy n) (by omega)) (Nat.le_trans (zl_mul (hx n) (hy n)) (by omega))) (by omega)
theorem awake_S : ∀ i j, i < ([[1, 1], [0, 2]] : List (List Int)).length → j ≤ i → zl (dotU (([[1, 1], [0, 2]] : List (List Int)).getD i []) (([[1, 1], [0, 2]] : List (List Int)).getD j []) (([[1, 1], [0, 2]] : List (List Int)).getD i []).length) ≤ 10 := fun i j hi hj => by
  have h : ∀ i, i < 2 → ∀ j, j ≤ i → (dotU (([[1, 1], [0, 2]] : List (List Int)).getD i []) (([[1, 1], [0, 2]] : List (List Int)).getD j []) (([[1, 1], [0, 2]] : List (List Int)).getD i []).length).natAbs < 4294967296 := by decide
  exact Nat.le_trans (zl_one' (h i hi j hj)) (by decide)

theorem law_awake  : Fn Tryz.prog 7 [] [] [] [] (T.c (.bool true)) := by
  refine fn_of Tryz.func7 rfl (by show 0 ≤ 34; decide) fun cx hcx => ?_
  refine tri_sub sn en ?_
  refine tri_seq ?_
  refine tri_reg mixed hcx ?_ _ _
  refine asg rfl ?_
  refine ⟨by kernel_rfl, ?_⟩
  refine nx sn en ?_
  refine tri_seq ?_
  refine tri_reg mixed hcx ?_ _ _
  refine ca rfl (h := law_square) (hn := ?_)
  refine ca rfl (h := g_Of (b := [[1, 1], [0, 2]]) (k := 2) (m := 2) (S := 10) (K := 45055) (by decide) (by decide) (by decide) (by decide) (by decide) (by decide) (show bld [[1, 1], [0, 2]] 2 = some ([1, 2, 4], [[], [2]]) from by decide) awake_S (by decide) (by decide) (by decide)) (hn := ?_)
  refine mv rfl ?_
  refine ex rfl rfl ?_
  refine ex rfl rfl ?_
  refine nw 115 zeG ?_
  refine sts rfl rfl rfl tyG rfl ?_
  refine asg rfl ?_
  refine ⟨by kernel_rfl, ?_⟩
  refine nx (sl 1 rfl (sl 2 rfl sn)) (el 115 rfl en) ?_
  refine tri_seq ?_
  refine tri_reg mixed hcx ?_ _ _
  refine mv rfl ?_
  refine ceq rfl rfl (decide_eq_true (by omega)) ?_
  refine mv rfl ?_
  refine fa rfl fD 0 ?_ (hg := gd1)
  refine ld rfl rfl tyZs rfl ?_ (hg := gd1)
  refine ca rfl (h := law_n (by omega) (by omega)) (hn := ?_) (hg := gd1)
  refine ca rfl (h := law_n (by omega) (by omega)) (hn := ?_) (hg := gd1)
  refine ca rfl (h := law_n (by omega) (by omega)) (hn := ?_) (hg := gd1)
  refine bs (c := cZ 2) (xs := [1, 2, 4]) slZs rfl ⟨.refl _, .refl _, .refl _, trivial⟩ ?_ (hg := gd1)
  refine ca rfl (h := law_wholes (l := [1, 2, 4]) (by omega) (by decide)) (hn := ?_) (hg := gd1)
  refine pk rfl rfl ?_
  refine mv rfl ?_
  refine fa rfl fL 1 ?_ (hg := gd1)
  refine ld rfl rfl tyZss rfl ?_ (hg := gd1)
  refine ln slZss rfl ?_ (hg := gd1)
  refine ceq rfl rfl (show decide ((([[], [2]] : List (List Int)).length : Int) = 2) = true from by decide) ?_ (hg := gd1)
  refine pk rfl rfl ?_
  refine mv rfl ?_
  refine fa rfl fL 1 ?_ (hg := gd1)
  refine ld rfl rfl tyZss rfl ?_ (hg := gd1)
  refine ix rfl rfl slZss ⟨(rfl : _ = ((1 : Nat) : Int)), by decide⟩ ?_ (hg := gd1)
  refine lf rfl tyZs ?_ (hg := gd1)
  refine ca rfl (h := law_n (by omega) (by omega)) (hn := ?_) (hg := gd1)
  refine bs (c := cZ 2) (xs := [2]) slZs rfl ⟨.refl _, trivial⟩ ?_ (hg := gd1)
  refine ca rfl (h := law_wholes (l := [2]) (by omega) (by decide)) (hn := ?_) (hg := gd1)
  refine pk rfl rfl ?_
  refine asg rfl ?_
  refine ⟨by kernel_rfl, ?_⟩
  refine nx (sl 0 rfl sn) (el 115 rfl en) ?_
  refine tri_ret ?_
  repeat (first | refine pn_thenr ?_ | refine pn_blkr ?_)
  exact ret1 hcx rfl (rv_tmp rfl) (.refl _) en
end Go.Proofs.YtmfgnbchehnpjaaGreat.V
/- The law of the parts of data. -/
set_option linter.unusedVariables false
set_option linter.unusedSimpArgs false
set_option maxRecDepth 100000
namespace Go.Proofs.YtmfgnbchehnpjaaGreat.V
open Go.RowKit Mt Nml
end Go.Proofs.YtmfgnbchehnpjaaGreat.V
/- What is read of the arguments of a law: whole numbers, lists of them, lists of lists, data of rows. -/
set_option linter.unusedVariables false
set_option linter.unusedSimpArgs false
namespace Go.Proofs.YtmfgnbchehnpjaaGreat.V
open Go.Deep Go.ChangeShapes Go.WideShapes Go.ChangeAt Go.RowKit Mt Nml

theorem cells_one {β : Env} {u : World} {X : T} {v : Value} (h0 : X.sz ≠ 0) (h : X.rep β u v) : Cells β u [X] v.cells.toList := ⟨v, [], h0, h, by simp, rfl⟩
theorem addr_add_add (a : Addr) (m n : Nat) : (a.add m).add n = a.add (m + n) := by
  unfold Addr.add
  by_cases h : m = 0
  · subst h; simp
  · by_cases h2 : n = 0
    · subst h2; simp [h]
    · simp [h, h2, Nat.add_assoc]
theorem read_list {α : Type} (c : Cod α) {W : World} {base : Nat} {a : Addr} : ∀ {len : Nat}, (∀ i, i < len → ∃ z cs' v, W.cells? base (a.add (i * c.sz)) c.sz = some cs' ∧ v.cells.toList = cs' ∧ (c.X z).rep B0 W v) → ∃ l : List α, l.length = len ∧ ∃ xs, Els c l W xs ∧ Stand W a xs ∧ xs.length = len * c.sz
  | 0, _ => ⟨[], rfl, [], rfl, fun j v h => by simp at h, by simp⟩
  | len + 1, hx => by
    obtain ⟨l, hl, xs, hE, hS, hn⟩ := read_list c (len := len) (fun i hi => hx i (by omega))
    obtain ⟨z, cs', v, h1, h2, h3⟩ := hx len (by omega)
    obtain ⟨_, k1, k2⟩ := World.cells?_some h1
    refine ⟨l ++ [z], by rw [List.length_append, hl]; rfl, xs ++ cs', ?_, fun j y hy => ?_, by rw [List.length_append, hn, k1, Nat.succ_mul]⟩
    · show Cells B0 W ((l ++ [z]).map c.X) (xs ++ cs')
      rw [List.map_append, ← h2]
      exact Cells.append hE (cells_one (by rw [c.sz0]; exact c.pos) h3)
    · rcases Nat.lt_or_ge j xs.length with h | h
      · rw [List.getElem?_append_left h] at hy; exact hS j y hy
      · obtain ⟨d, rfl⟩ : ∃ d, j = xs.length + d := ⟨j - xs.length, by omega⟩
        rw [List.getElem?_append_right h, Nat.add_sub_cancel_left] at hy
        have hj : d < c.sz := by rw [← k1]; exact (List.getElem?_eq_some_iff.1 hy).1
        have := k2 d hj
        rw [hy] at this
        rw [← this, hn]
        rw [← addr_add_add]
section
variable {H : Type} {enc : TypeId × Value → H} {W : World} {base : Nat} {spare : Nat → Bool} {held : Bool} {fuel : Nat} {cs : List Value} {x : DataW H × List MemPlace}
theorem bulk_pos (d : DataW H) : 1 ≤ Rows.uptoBulk d := by
  cases d with
  | lit l => cases l <;> simp [Rows.uptoBulk]
  | _ => simp [Rows.uptoBulk]
theorem bulk_all : ∀ {l : List (DataW H)}, l.length ≤ Rows.uptoBulkAll l
  | [] => Nat.zero_le _
  | d :: r => by
    have h1 := bulk_pos d
    have h2 := bulk_all (l := r)
    show r.length + 1 ≤ Rows.uptoBulk d + Rows.uptoBulkAll r
    omega
theorem bulk_mem : ∀ {l : List (DataW H)} {d : DataW H}, d ∈ l → Rows.uptoBulk d ≤ Rows.uptoBulkAll l
  | d' :: r, d, h => by
    show _ ≤ Rows.uptoBulk d' + Rows.uptoBulkAll r
    rcases List.mem_cons.1 h with h | h
    · subst h; omega
    · have := bulk_mem h; omega
theorem bulk_lits (k : IntKind) : ∀ l : List Int, Rows.uptoBulkAll (H := H) (lits k l) = l.length
  | [] => rfl
  | a :: l => by
    show Rows.uptoBulk (DataW.lit (H := H) (.int k a)) + Rows.uptoBulkAll (lits k l) = _
    rw [bulk_lits k l, List.length_cons]
    show 1 + l.length = _
    omega
theorem read_lims (h : DataW.trod enc Tryz.prog W base spare held fuel 24 cs = some x) : ∃ v xs, cs = [v] ∧ (T.l cU xs).rep B0 W v ∧ Lim xs ∧ xs.length ≤ Rows.uptoBulk x.1 := by
  rcases open_ints Tryz.underlying24 Tryz.underlying74 (by kernel_rfl) h with ⟨rfl, rfl⟩ | ⟨a, len, cap, zs, rfl, _, hl, hm, hz, rfl, hcell, hwz⟩
  · exact ⟨_, [], rfl, nil_l cU _ _ _ rfl, Lim.nil, Nat.zero_le _⟩
  · have hz' : len ≤ zs.length := by rw [hz]; split <;> omega
    have hb : (zs.take len).length = len := by rw [List.length_take]; omega
    have hlim : Lim (zs.take len) := fun z hz0 => by
      have := hwz z (List.mem_of_mem_take hz0)
      have e0 : IntKind.u32.min = 0 := by kernel_rfl
      have e1 : IntKind.u32.max = 4294967295 := by kernel_rfl
      simp [Lit.wf] at this
      constructor <;> omega
    refine ⟨_, zs.take len, rfl, ⟨some a, len, cap, rfl, hb, hl, by unfold maxLen at hm; omega, fun hp => ⟨a, rfl, _, els_cU _ _, fun j y hy => ?_⟩⟩, hlim, ?_⟩
    · rw [List.getElem?_map, Option.map_eq_some_iff] at hy
      obtain ⟨z, h1, rfl⟩ := hy
      have hj : j < len := by rw [← hb]; exact (List.getElem?_eq_some_iff.1 h1).1
      rw [hcell j (by omega), List.getD_eq_getElem?_getD, ← List.getElem?_take_of_lt hj, h1]; rfl
    · show _ ≤ Rows.uptoBulkAll (lits .u32 (zs.take len)) + _ + 1
      rw [bulk_lits]; omega
set_option maxRecDepth 100000 in
theorem read_Zi {k : Nat} (h : DataW.trod enc Tryz.prog W base spare held fuel 26 cs = some x) (hk : Rows.uptoBulk x.1 ≤ k) : ∃ z, (T.Zi z k).rep B0 W (.agg cs.toArray) := by
  obtain ⟨y0, y1, m, rfl, hl, h0, h1⟩ := trod_struct2 Tryz.underlying26 h
  have hl2 : cs.length = 2 := hl.trans (by kernel_rfl)
  match cs, hl2 with
  | [c0, c1], _ =>
    obtain ⟨s, e0, _⟩ := DataW.trod_bool Tryz.underlying4 h0
    obtain ⟨v, xs, e1, hr, hli, hn⟩ := read_lims h1
    have k0 : (([c0, c1] : List Value).drop 0).take (Tryz.prog.cellsOf 4) = [c0] := by rw [show Tryz.prog.cellsOf 4 = 1 from by kernel_rfl]; rfl
    have k1 : (([c0, c1] : List Value).drop 1).take (Tryz.prog.cellsOf 24) = [c1] := by rw [show Tryz.prog.cellsOf 24 = 1 from by kernel_rfl]; rfl
    have e0' : [c0] = [Value.bool s] := k0.symm.trans e0
    have e1' : [c1] = [v] := k1.symm.trans e1
    cases e0'
    cases e1'
    have hk' : Rows.uptoBulk y1.1 ≤ k := by
      have : Rows.uptoBulk y0.1 + (Rows.uptoBulk y1.1 + 0) + 1 ≤ k := hk
      omega
    refine ⟨_, (s, xs), ⟨hli, rfl, Nat.le_trans hn hk'⟩, [.bool s, c1], rfl, .bool s, [c1], by show (1 : Nat) ≠ 0; omega, rfl, rfl, c1, [], by show (1 : Nat) ≠ 0; omega, hr, ?_, rfl⟩
    obtain ⟨A, n, q, rfl, _⟩ := hr
    rfl
theorem read_ints {k : Nat} (h : DataW.trod enc Tryz.prog W base spare held fuel 38 cs = some x) (hk : Rows.uptoBulk x.1 ≤ k) : ∃ v l, cs = [v] ∧ (T.l (cZi k) l).rep B0 W v ∧ l.length ≤ Rows.uptoBulk x.1 := by
  rcases open_slice Tryz.underlying38 h with ⟨rfl, rfl⟩ | ⟨a, len, cap, m, n, D, Pl, rfl, hb, hl, hm, hmm, rfl, hx⟩
  · exact ⟨_, [], rfl, nil_l _ _ _ _ rfl, Nat.zero_le _⟩
  · have hml : len ≤ m := by rw [hmm]; split <;> omega
    have hbl : len ≤ Rows.uptoBulkAll ((List.range len).map D) := by have := bulk_all (l := (List.range len).map D); simpa using this
    have hbk : Rows.uptoBulkAll ((List.range len).map D) + Rows.uptoBulkAll ((List.range (m - len)).map fun j => D (len + j)) + 1 ≤ k := hk
    obtain ⟨l, h1, xs, h2, h3, h4⟩ := read_list (cZi k) (W := W) (base := base) (a := a) (len := len) (fun i hi => by
      obtain ⟨cs', k1, k2⟩ := hx i (by omega)
      rw [show Tryz.prog.cellsOf 26 = 2 from by kernel_rfl] at k1
      obtain ⟨z, hz⟩ := read_Zi (k := k) k2 (by have := bulk_mem (l := (List.range len).map D) (List.mem_map_of_mem (List.mem_range.2 hi)); show Rows.uptoBulk (D i) ≤ k; omega)
      exact ⟨z, cs', _, k1, rfl, hz⟩)
    refine ⟨_, l, rfl, ⟨some a, len, cap, rfl, h1, hl, by unfold maxLen at hm; omega, fun hp => ⟨a, rfl, xs, h2, h3⟩⟩, ?_⟩
    show _ ≤ Rows.uptoBulkAll ((List.range len).map D) + Rows.uptoBulkAll ((List.range (m - len)).map fun j => D (len + j)) + 1
    omega
end
/-- A function that leaves what it found: what its caller sees. -/
theorem fn_calls_of {P : Program} {f : FuncId} {As : List T} {v : Value} (h : Fn P f As [] [] [] (T.c v)) {W : World} {vs : List Value} (hr : Reps B0 W As vs) : Calls P f vs.toArray W fun e w' => e = .returned v ∧ Below W.heap.size W w' :=
  (h vs B0 W W (fun _ _ => False) (Sub.refl W) hr (Hold.none _ _ _ _)).mono fun e w' ⟨v', he, u', β', F', h1, h2, h3, h4, h5⟩ => ⟨by rw [he, show v' = v from h5], ⟨h2.os, h2.tape, h2.output, h2.size, fun k hk => h2.block k hk (fun ⟨c, hc, _⟩ => by cases hc)⟩⟩
end Go.Proofs.YtmfgnbchehnpjaaGreat.V
/- Shifts of whole numbers. -/
set_option linter.unusedVariables false
set_option linter.unusedSimpArgs false
set_option maxRecDepth 100000
namespace Go.Proofs.YtmfgnbchehnpjaaGreat.V
open Go.RowKit Mt Nml
end Go.Proofs.YtmfgnbchehnpjaaGreat.V
/- Sums and products of fractions. -/
set_option linter.unusedVariables false
set_option linter.unusedSimpArgs false
set_option maxRecDepth 100000
namespace Go.Proofs.YtmfgnbchehnpjaaGreat.V
open Go.RowKit Mt Nml
section
variable {P : Program} {x : Code} {Q : Exit → Act → World → Prop} {ctx : Ctx} {n : Nat} {g : List (Nat × T)} {E : List (Nat × Option Ent)}
/-- A box that is written to no more: its pointer tells a place that stands. -/
theorem tri_fzb {et : TypeId} {l : List T} (t e : Nat) (ht : lk g t = some (T.p e 0)) (hE : lkE E e = some (Ent.box et l)) (hl : szs l ≠ 0) (h : Tri P x Q ctx n ((t, T.fp (T.st l)) :: g) ((e, none) :: E)) : Tri P x Q ctx n g E := fun a w hS => h a w (by
  obtain ⟨β, u, F, h1, h2, h3, h4, h5, h6, h7⟩ := hS
  obtain ⟨b, cs, k1, k2, k3, k4⟩ := h4.hold e _ hE
  have hs := h5.sub
  have hd : ∀ k, F e k → Dead u k := fun k hk => (h4.dead e _ k hE hk).1
  have hup := solid_up hs hd
  have hlk : ∀ f X, lkE ((e, none) :: E) f = some X → f ≠ e ∧ lkE E f = some X := fun f X hX => by
    unfold lkE at hX
    rw [lk_cons] at hX
    split at hX
    · cases hX
    · rename_i hne; exact ⟨Ne.symm hne, hX⟩
  refine ⟨β, solid u w (F e), F, h1, h2, fun t' X hX => ?_, ⟨fun f X hX => ?_, fun f X k hX hk => ?_, fun f f' X Y k hX hY hne hk hk' => ?_⟩, ⟨h5.os, h5.tape, h5.output, h5.size, h5.block, h5.old.trans hup, solid_sub hs, fun k hk hc hdk => solid_dead hs (fun hk' => ?_) (h5.dead k hk hc hdk)⟩, fun f X k hX hk => ?_, h7⟩
  · rw [lk_cons] at hX
    split at hX
    · rename_i e1
      subst e1
      cases hX
      obtain ⟨v, q1, b', q2, q3⟩ := h3 t _ ht
      have hb : b' = b := by rw [k1] at q2; cases q2; rfl
      subst hb
      refine ⟨v, q1, ⟨b', 0, none⟩, .agg cs.toArray, q3, hl, ⟨cs, rfl, k4.mono hup⟩, fun j y hy => ?_⟩
      rw [add_none, Nat.zero_add, solid_in hs ((k2 b').2 rfl), cell_of_row w b' j _ et (0, 0) k3]
      simpa [Value.cells] using hy
    · obtain ⟨v, q1, q2⟩ := h3 t' X hX
      exact ⟨v, q1, X.mono hup q2⟩
  · obtain ⟨hne, hX'⟩ := hlk f X hX
    exact X.mono hup (h4.hold f X hX')
  · obtain ⟨hne, hX'⟩ := hlk f X hX
    exact ⟨solid_dead hs (fun hk' => h4.apart f e X _ k hX' hE hne hk hk') (h4.dead f X k hX' hk).1, (h4.dead f X k hX' hk).2⟩
  · exact h4.apart f f' X Y k (hlk f X hX).2 (hlk f' Y hY).2 hne hk hk'
  · rcases h6 e _ k hE hk' with h8 | h8
    · exact hc h8
    · omega
  · exact h6 f X k (hlk f X hX).2 hk)
end
instance (k : Nat) (q : Rat) : Sp ((cQ k).X q) [T.Z q.num k, T.Z (q.den : Int) k] := inferInstanceAs (Sp (T.Q q k) _)
/-- A function value whose captured things hang on no memory of one's own. -/
def T.clo (f : FuncId) (Cs : List T) (h : Cs.flatMap (·.ns) = []) : T := ⟨[], 1, false, (T.fn f Cs).rep, (T.fn f Cs).shp, (T.fn f Cs).mono, fun _ hr => (T.fn f Cs).ext (fun e he => by rw [show (T.fn f Cs).ns = [] from h] at he; cases he) hr⟩
theorem clo_le {f : FuncId} {Cs : List T} {h : Cs.flatMap (·.ns) = []} : (T.fn f Cs).le (T.clo f Cs h) := fun _ _ _ k => k
theorem clo_ge {f : FuncId} {Cs : List T} {h : Cs.flatMap (·.ns) = []} : (T.clo f Cs h).le (T.fn f Cs) := fun _ _ _ k => k
theorem q_eq {q q' : Rat} {k k' : Nat} (h : q = q') (hk : k ≤ k') : (T.Q q k).le (T.Q q' k') := by subst h; exact st_le (l := [T.Z q.num k, T.Z (q.den : Int) k]) (l' := [T.Z q.num k', T.Z (q.den : Int) k']) ⟨z_mono hk, z_mono hk, trivial⟩
theorem den_ne (q : Rat) : ((q.den : Int)) ≠ 0 := by have := q.den_pos; omega
theorem rat_adds (q r : Rat) : ((q.num * (r.den : Int) + r.num * (q.den : Int) : Int) : Rat) / (((q.den : Int) * (r.den : Int) : Int) : Rat) = q + r := by
  conv => rhs; rw [← Rat.num_divInt_den q, ← Rat.num_divInt_den r]
  rw [Rat.divInt_add_divInt _ _ (den_ne q) (den_ne r), Rat.divInt_eq_div]
theorem rat_muls (q r : Rat) : ((q.num * r.num : Int) : Rat) / (((q.den : Int) * (r.den : Int) : Int) : Rat) = q * r := by
  conv => rhs; rw [← Rat.num_divInt_den q, ← Rat.num_divInt_den r]
  rw [Rat.divInt_mul_divInt, Rat.divInt_eq_div]

end Go.Proofs.YtmfgnbchehnpjaaGreat.V
/- The document: sums and products of fractions. -/
set_option linter.unusedVariables false
set_option linter.unusedSimpArgs false
set_option maxRecDepth 100000
namespace Go.Proofs.YtmfgnbchehnpjaaGreat.V
open Go.RowKit Mt Nml
theorem rat_negs (q : Rat) : ((-q.num : Int) : Rat) / ((q.den : Int) : Rat) = -q := by
  conv => rhs; rw [← Rat.num_divInt_den q]
  rw [Rat.neg_divInt, Rat.divInt_eq_div]

theorem r03_Neg {q : Rat} {k : Nat} (hk : k ≤ 68719476736) : Fn Tryz.prog 41 [T.Q q k] [] [] [] (T.Q (-q) (k + k)) := by
  refine fn_of Tryz.func41 rfl (by show 1 ≤ 9; decide) fun cx hcx => ?_
  refine tri_sub (sl 0 rfl sn) en ?_
  have hd1 := den_ne q
  refine tri_seq ?_
  refine tri_reg mixed hcx ?_ _ _
  refine bxs 10 rfl ?_
  refine nw 11 zeQ ?_
  refine ⟨by kernel_rfl, ?_⟩
  refine nx (sl 1 rfl (sl 2 rfl sn)) (el 10 rfl (el 11 rfl en)) ?_
  refine tri_seq ?_
  refine tri_reg mixed hcx ?_ _ _
  refine fa rfl fNum 0 ?_
  refine ld rfl rfl tyZ rfl ?_
  refine ca rfl (h := r02_Neg (by omega)) (hn := ?_)
  refine fa rfl fDen 2 ?_
  refine ld rfl rfl tyZ rfl ?_
  refine ca rfl (h := r03_Make (by first | assumption | omega) (by omega) (by omega)) (hn := ?_)
  refine st rfl rfl rfl tyQ rfl ?_
  refine ⟨by kernel_rfl, ?_⟩
  refine nx (sl 2 rfl sn) (el 10 rfl (el 11 rfl en)) ?_
  refine tri_ret ?_
  repeat (first | refine pn_thenr ?_ | refine pn_blkr ?_)
  exact ret1 hcx rfl (rv_cell (c' := cx) (n := 0) rfl rfl tyQ rfl) (q_eq (rat_negs q) (Nat.le_refl _)) en

theorem r03_Add {q r : Rat} {k l : Nat} (hk : k ≤ 68719476736) (hl : l ≤ 68719476736) : Fn Tryz.prog 17 [T.Q q k, T.Q r l] [] [] [] (T.Q (q + r) (3 * (k + l) + 1)) := by
  refine fn_of Tryz.func17 rfl (by show 2 ≤ 26; decide) fun cx hcx => ?_
  refine tri_sub (sl 0 rfl (sl 1 rfl sn)) en ?_
  have hd1 := den_ne q; have hd2 := den_ne r; have hdd : (q.den : Int) * (r.den : Int) ≠ 0 := Int.mul_ne_zero hd1 hd2
  refine tri_seq ?_
  refine tri_reg mixed hcx ?_ _ _
  refine bxs 10 rfl ?_
  refine bxs 11 rfl ?_
  refine nw 12 zeQ ?_
  refine ⟨by kernel_rfl, ?_⟩
  refine nx (sl 2 rfl (sl 3 rfl (sl 4 rfl sn))) (el 10 rfl (el 11 rfl (el 12 rfl en))) ?_
  refine tri_seq ?_
  refine tri_reg mixed hcx ?_ _ _
  refine fa rfl fNum 0 ?_
  refine ld rfl rfl tyZ rfl ?_
  refine fa rfl fDen 2 ?_
  refine ld rfl rfl tyZ rfl ?_
  refine ca rfl (h := r02_Mul (by omega) (by omega)) (hn := ?_)
  refine nw 115 zeZ ?_
  refine st rfl rfl rfl tyZ rfl ?_
  refine ⟨by kernel_rfl, ?_⟩
  refine nx (sl 2 rfl (sl 3 rfl (sl 4 rfl (sl 5 rfl sn)))) (el 10 rfl (el 11 rfl (el 12 rfl (el 115 rfl en)))) ?_
  refine tri_seq ?_
  refine tri_reg mixed hcx ?_ _ _
  refine fa rfl fNum 0 ?_
  refine ld rfl rfl tyZ rfl ?_
  refine fa rfl fDen 2 ?_
  refine ld rfl rfl tyZ rfl ?_
  refine ca rfl (h := r02_Mul (by omega) (by omega)) (hn := ?_)
  refine nw 215 zeZ ?_
  refine st rfl rfl rfl tyZ rfl ?_
  refine ⟨by kernel_rfl, ?_⟩
  refine nx (sl 2 rfl (sl 3 rfl (sl 4 rfl (sl 5 rfl (sl 6 rfl sn))))) (el 10 rfl (el 11 rfl (el 12 rfl (el 115 rfl (el 215 rfl en))))) ?_
  refine tri_seq ?_
  refine tri_reg mixed hcx ?_ _ _
  refine ld rfl rfl tyZ rfl ?_
  refine ld rfl rfl tyZ rfl ?_
  refine ca rfl (h := r02_Add (by omega) (by omega)) (hn := ?_)
  refine fa rfl fDen 2 ?_
  refine ld rfl rfl tyZ rfl ?_
  refine fa rfl fDen 2 ?_
  refine ld rfl rfl tyZ rfl ?_
  refine ca rfl (h := r02_Mul (by omega) (by omega)) (hn := ?_)
  refine ca rfl (h := r03_Make (by first | assumption | omega) (by omega) (by omega)) (hn := ?_)
  refine st rfl rfl rfl tyQ rfl ?_
  refine ⟨by kernel_rfl, ?_⟩
  refine nx (sl 4 rfl sn) (el 10 rfl (el 11 rfl (el 12 rfl (el 115 rfl (el 215 rfl en))))) ?_
  refine tri_ret ?_
  repeat (first | refine pn_thenr ?_ | refine pn_blkr ?_)
  exact ret1 hcx rfl (rv_cell (c' := cx) (n := 0) rfl rfl tyQ rfl) (q_eq (rat_adds q r) (by omega)) en

theorem r03_Mul {q r : Rat} {k l : Nat} (hk : k ≤ 68719476736) (hl : l ≤ 68719476736) : Fn Tryz.prog 15 [T.Q q k, T.Q r l] [] [] [] (T.Q (q * r) (2 * (k + l))) := by
  refine fn_of Tryz.func15 rfl (by show 2 ≤ 16; decide) fun cx hcx => ?_
  refine tri_sub (sl 0 rfl (sl 1 rfl sn)) en ?_
  have hd1 := den_ne q; have hd2 := den_ne r; have hdd : (q.den : Int) * (r.den : Int) ≠ 0 := Int.mul_ne_zero hd1 hd2
  refine tri_seq ?_
  refine tri_reg mixed hcx ?_ _ _
  refine bxs 10 rfl ?_
  refine bxs 11 rfl ?_
  refine nw 12 zeQ ?_
  refine ⟨by kernel_rfl, ?_⟩
  refine nx (sl 2 rfl (sl 3 rfl (sl 4 rfl sn))) (el 10 rfl (el 11 rfl (el 12 rfl en))) ?_
  refine tri_seq ?_
  refine tri_reg mixed hcx ?_ _ _
  refine fa rfl fNum 0 ?_
  refine ld rfl rfl tyZ rfl ?_
  refine fa rfl fNum 0 ?_
  refine ld rfl rfl tyZ rfl ?_
  refine ca rfl (h := r02_Mul (by omega) (by omega)) (hn := ?_)
  refine fa rfl fDen 2 ?_
  refine ld rfl rfl tyZ rfl ?_
  refine fa rfl fDen 2 ?_
  refine ld rfl rfl tyZ rfl ?_
  refine ca rfl (h := r02_Mul (by omega) (by omega)) (hn := ?_)
  refine ca rfl (h := r03_Make (by first | assumption | omega) (by omega) (by omega)) (hn := ?_)
  refine st rfl rfl rfl tyQ rfl ?_
  refine ⟨by kernel_rfl, ?_⟩
  refine nx (sl 4 rfl sn) (el 10 rfl (el 11 rfl (el 12 rfl en))) ?_
  refine tri_ret ?_
  repeat (first | refine pn_thenr ?_ | refine pn_blkr ?_)
  exact ret1 hcx rfl (rv_cell (c' := cx) (n := 0) rfl rfl tyQ rfl) (q_eq (rat_muls q r) (by omega)) en

theorem r03_Sub {q r : Rat} {k l : Nat} (hk : k ≤ 17179869184) (hl : l ≤ 17179869184) : Fn Tryz.prog 14 [T.Q q k, T.Q r l] [] [] [] (T.Q (q - r) (3 * (k + (l + l)) + 1)) := by
  refine fn_of Tryz.func14 rfl (by show 2 ≤ 9; decide) fun cx hcx => ?_
  refine tri_sub (sl 0 rfl (sl 1 rfl sn)) en ?_
  refine tri_seq ?_
  refine tri_reg mixed hcx ?_ _ _
  refine bxs 10 rfl ?_
  refine bxs 11 rfl ?_
  refine nw 12 zeQ ?_
  refine ⟨by kernel_rfl, ?_⟩
  refine nx (sl 2 rfl (sl 3 rfl (sl 4 rfl sn))) (el 10 rfl (el 11 rfl (el 12 rfl en))) ?_
  refine tri_seq ?_
  refine tri_reg mixed hcx ?_ _ _
  refine ld rfl rfl tyQ rfl ?_
  refine ld rfl rfl tyQ rfl ?_
  refine ca rfl (h := r03_Neg (by omega)) (hn := ?_)
  refine ca rfl (h := r03_Add (by omega) (by omega)) (hn := ?_)
  refine st rfl rfl rfl tyQ rfl ?_
  refine ⟨by kernel_rfl, ?_⟩
  refine nx (sl 4 rfl sn) (el 10 rfl (el 11 rfl (el 12 rfl en))) ?_
  refine tri_ret ?_
  repeat (first | refine pn_thenr ?_ | refine pn_blkr ?_)
  exact ret1 hcx rfl (rv_cell (c' := cx) (n := 0) rfl rfl tyQ rfl) (q_eq (Rat.sub_eq_add_neg q r).symm (Nat.le_refl _)) en

theorem r05_square {q : Rat} {k : Nat} (hk : k ≤ 17179869184) : Fn Tryz.prog 18 [T.Q q k] [] [] [] (T.Q (q * q) (2 * (k + k))) := by
  refine fn_of Tryz.func18 rfl (by show 1 ≤ 6; decide) fun cx hcx => ?_
  refine tri_sub (sl 0 rfl sn) en ?_
  refine tri_seq ?_
  refine tri_reg mixed hcx ?_ _ _
  refine bxs 10 rfl ?_
  refine nw 11 zeQ ?_
  refine ⟨by kernel_rfl, ?_⟩
  refine nx (sl 1 rfl (sl 2 rfl sn)) (el 10 rfl (el 11 rfl en)) ?_
  refine tri_seq ?_
  refine tri_reg mixed hcx ?_ _ _
  refine ld rfl rfl tyQ rfl ?_
  refine ld rfl rfl tyQ rfl ?_
  refine ca rfl (h := r03_Mul (by omega) (by omega)) (hn := ?_)
  refine st rfl rfl rfl tyQ rfl ?_
  refine ⟨by kernel_rfl, ?_⟩
  refine nx (sl 2 rfl sn) (el 10 rfl (el 11 rfl en)) ?_
  refine tri_ret ?_
  repeat (first | refine pn_thenr ?_ | refine pn_blkr ?_)
  exact ret1 hcx rfl (rv_cell (c' := cx) (n := 0) rfl rfl tyQ rfl) (.refl _) en
end Go.Proofs.YtmfgnbchehnpjaaGreat.V
/- The squared length of a sum of rows, by the data: what is reckoned, and how large its parts are. -/
set_option linter.unusedVariables false
namespace Go.Proofs.YtmfgnbchehnpjaaGreat.V
open Mt Nml
theorem rat_ne {z : Int} (h : z ≠ 0) : (z : Rat) ≠ 0 := fun e => h (Rat.intCast_inj.1 (by rw [e]; rfl))
end Go.Proofs.YtmfgnbchehnpjaaGreat.V
/- The squared length of a sum of rows. -/
set_option linter.unusedVariables false
set_option linter.unusedSimpArgs false
set_option maxRecDepth 100000
namespace Go.Proofs.YtmfgnbchehnpjaaGreat.V
open Go.RowKit Mt Nml
theorem zl_zero : zl 0 = 0 := by unfold zl; exact lim_zero
section
variable {P : Program} {x : Code} {Q : Exit → Act → World → Prop} {ctx : Ctx} {n : Nat} {g : List (Nat × T)} {E : List (Nat × Option Ent)}
end
theorem q_qb {q q' : Rat} {k k' : Nat} (e : q = q') (h : QB q' k') : (T.Q q k).le (T.Q q' k') := by
  subst e
  exact st_le (l := [T.Z q.num k, T.Z (q.den : Int) k]) (l' := [T.Z q.num k', T.Z (q.den : Int) k']) ⟨z_as h.1, z_as h.2, trivial⟩
theorem QB.mono {q : Rat} {k k' : Nat} (h : QB q k) (hk : k ≤ k') : QB q k' := ⟨Nat.le_trans h.1 hk, Nat.le_trans h.2 hk⟩
end Go.Proofs.YtmfgnbchehnpjaaGreat.V
/- The law of the squared lengths. -/
set_option linter.unusedVariables false
set_option linter.unusedSimpArgs false
set_option maxRecDepth 100000
namespace Go.Proofs.YtmfgnbchehnpjaaGreat.V
open Go.RowKit Mt Nml
end Go.Proofs.YtmfgnbchehnpjaaGreat.V
/- What is read of data of rows, with the number of rows bounded by what is read. -/
set_option linter.unusedVariables false
set_option linter.unusedSimpArgs false
namespace Go.Proofs.YtmfgnbchehnpjaaGreat.V
open Go.Deep Go.ChangeShapes Go.WideShapes Go.ChangeAt Go.RowKit Mt Nml

theorem read_listp {α : Type} (c : Cod α) (p : Nat → α → Prop) {W : World} {base : Nat} {a : Addr} : ∀ {len : Nat}, (∀ i, i < len → ∃ z cs' v, W.cells? base (a.add (i * c.sz)) c.sz = some cs' ∧ v.cells.toList = cs' ∧ (c.X z).rep B0 W v ∧ p i z) → ∃ l : List α, l.length = len ∧ (∀ i, i < len → p i (l.getD i c.dflt)) ∧ ∃ xs, Els c l W xs ∧ Stand W a xs ∧ xs.length = len * c.sz
  | 0, _ => ⟨[], rfl, fun i hi => absurd hi (Nat.not_lt_zero _), [], rfl, fun j v h => by simp at h, by simp⟩
  | len + 1, hx => by
    obtain ⟨l, hl, hp, xs, hE, hS, hn⟩ := read_listp c p (len := len) (fun i hi => hx i (by omega))
    obtain ⟨z, cs', v, h1, h2, h3, h5⟩ := hx len (by omega)
    obtain ⟨_, k1, k2⟩ := World.cells?_some h1
    refine ⟨l ++ [z], by rw [List.length_append, hl]; rfl, fun i hi => ?_, xs ++ cs', ?_, fun j y hy => ?_, by rw [List.length_append, hn, k1, Nat.succ_mul]⟩
    · rcases Nat.lt_or_ge i len with h | h
      · rw [gl_lt (by omega)]; exact hp i h
      · rw [gl_eq (by omega), show i = len by omega]; exact h5
    · show Cells B0 W ((l ++ [z]).map c.X) (xs ++ cs')
      rw [List.map_append, ← h2]
      exact Cells.append hE (cells_one (by rw [c.sz0]; exact c.pos) h3)
    · rcases Nat.lt_or_ge j xs.length with h | h
      · rw [List.getElem?_append_left h] at hy; exact hS j y hy
      · obtain ⟨d, rfl⟩ : ∃ d, j = xs.length + d := ⟨j - xs.length, by omega⟩
        rw [List.getElem?_append_right h, Nat.add_sub_cancel_left] at hy
        have hj : d < c.sz := by rw [← k1]; exact (List.getElem?_eq_some_iff.1 hy).1
        have := k2 d hj
        rw [hy] at this
        rw [← this, hn]
        rw [← addr_add_add]
section
variable {H : Type} {enc : TypeId × Value → H} {W : World} {base : Nat} {spare : Nat → Bool} {held : Bool} {fuel : Nat} {cs : List Value} {x : DataW H × List MemPlace}
end
end Go.Proofs.YtmfgnbchehnpjaaGreat.V
/- What is read of rows, with the lengths of the rows bounded by what is read. -/
set_option linter.unusedVariables false
set_option linter.unusedSimpArgs false
namespace Go.Proofs.YtmfgnbchehnpjaaGreat.V
open Go.Deep Go.ChangeShapes Go.WideShapes Go.ChangeAt Go.RowKit Mt Nml
section
variable {H : Type} {enc : TypeId × Value → H} {W : World} {base : Nat} {spare : Nat → Bool} {held : Bool} {fuel : Nat} {cs : List Value} {x : DataW H × List MemPlace}
theorem read_rows3 {k : Nat} (h : DataW.trod enc Tryz.prog W base spare held fuel 22 cs = some x) (hk : Rows.uptoBulk x.1 ≤ k) : ∃ v l, cs = [v] ∧ (T.l (cL (cZi k)) l).rep B0 W v ∧ l.length ≤ k ∧ ∀ i, i < l.length → (l.getD i []).length ≤ k := by
  rcases open_slice Tryz.underlying22 h with ⟨rfl, rfl⟩ | ⟨a, len, cap, m, n, D, Pl, rfl, hb, hl, hm, hmm, rfl, hx⟩
  · exact ⟨_, [], rfl, nil_l _ _ _ _ rfl, Nat.zero_le _, fun i hi => absurd hi (Nat.not_lt_zero _)⟩
  · have hml : len ≤ m := by rw [hmm]; split <;> omega
    have hbl : len ≤ Rows.uptoBulkAll ((List.range len).map D) := by have := bulk_all (l := (List.range len).map D); simpa using this
    have hbk : Rows.uptoBulkAll ((List.range len).map D) + Rows.uptoBulkAll ((List.range (m - len)).map fun j => D (len + j)) + 1 ≤ k := hk
    obtain ⟨l, h1, hp, xs, h2, h3, h4⟩ := read_listp (cL (cZi k)) (fun i z => z.length ≤ k) (W := W) (base := base) (a := a) (len := len) (fun i hi => by
      obtain ⟨cs', k1, k2⟩ := hx i (by omega)
      rw [show Tryz.prog.cellsOf 38 = 1 from by kernel_rfl] at k1
      have hbi : Rows.uptoBulk (D i) ≤ k := by have := bulk_mem (l := (List.range len).map D) (List.mem_map_of_mem (List.mem_range.2 hi)); omega
      obtain ⟨v, z, e, hz, hzl⟩ := read_ints (k := k) k2 hbi
      subst e
      refine ⟨z, [v], v, k1, ?_, hz, Nat.le_trans hzl hbi⟩
      obtain ⟨A, n, q, rfl, _⟩ := hz
      rfl)
    refine ⟨_, l, rfl, ⟨some a, len, cap, rfl, h1, hl, by unfold maxLen at hm; omega, fun hp => ⟨a, rfl, xs, h2, h3⟩⟩, by omega, fun i hi => ?_⟩
    exact hp i (by omega)
end
end Go.Proofs.YtmfgnbchehnpjaaGreat.V
/- What is read of the arguments of a law: fractions, lists of them. -/
set_option linter.unusedVariables false
set_option linter.unusedSimpArgs false
namespace Go.Proofs.YtmfgnbchehnpjaaGreat.V
open Go.Deep Go.ChangeShapes Go.WideShapes Go.ChangeAt Go.RowKit Mt Nml
section
variable {P : Program} {H : Type} {enc : TypeId × Value → H} {W : World} {base : Nat} {spare : Nat → Bool} {held : Bool} {fuel : Nat} {cs : List Value} {x : DataW H × List MemPlace}
set_option maxRecDepth 100000 in
theorem read_Frac {k : Nat} (h : DataW.trod enc Tryz.prog W base spare held fuel 28 cs = some x) (hk : Rows.uptoBulk x.1 ≤ k) : ∃ a b, (T.st [T.Zi a k, T.Zi b k]).rep B0 W (.agg cs.toArray) := by
  obtain ⟨y0, y1, m, rfl, hl, h0, h1⟩ := trod_struct2 Tryz.underlying28 h
  have hl2 : cs.length = 4 := hl.trans (by kernel_rfl)
  have hk' : Rows.uptoBulk y0.1 + (Rows.uptoBulk y1.1 + 0) + 1 ≤ k := hk
  match cs, hl2 with
  | [c0, c1, c2, c3], _ =>
    have k0 : (([c0, c1, c2, c3] : List Value).drop 0).take (Tryz.prog.cellsOf 26) = [c0, c1] := by rw [show Tryz.prog.cellsOf 26 = 2 from by kernel_rfl]; rfl
    have k1 : (([c0, c1, c2, c3] : List Value).drop 2).take (Tryz.prog.cellsOf 26) = [c2, c3] := by rw [show Tryz.prog.cellsOf 26 = 2 from by kernel_rfl]; rfl
    rw [k0] at h0
    rw [k1] at h1
    obtain ⟨a, ha⟩ := read_Zi (k := k) h0 (by omega)
    obtain ⟨b, hb⟩ := read_Zi (k := k) h1 (by omega)
    exact ⟨a, b, [c0, c1, c2, c3], rfl, .agg #[c0, c1], [c2, c3], by show (2 : Nat) ≠ 0; omega, ha, rfl, .agg #[c2, c3], [], by show (2 : Nat) ≠ 0; omega, hb, rfl, rfl⟩
theorem read_fracs {k : Nat} (h : DataW.trod enc Tryz.prog W base spare held fuel 23 cs = some x) (hk : Rows.uptoBulk x.1 ≤ k) : ∃ v l, cs = [v] ∧ (T.l (cQi k) l).rep B0 W v ∧ l.length ≤ Rows.uptoBulk x.1 := by
  rcases open_slice Tryz.underlying23 h with ⟨rfl, rfl⟩ | ⟨a, len, cap, m, n, D, Pl, rfl, hb, hl, hm, hmm, rfl, hx⟩
  · exact ⟨_, [], rfl, nil_l _ _ _ _ rfl, Nat.zero_le _⟩
  · have hml : len ≤ m := by rw [hmm]; split <;> omega
    have hbl : len ≤ Rows.uptoBulkAll ((List.range len).map D) := by have := bulk_all (l := (List.range len).map D); simpa using this
    have hbk : Rows.uptoBulkAll ((List.range len).map D) + Rows.uptoBulkAll ((List.range (m - len)).map fun j => D (len + j)) + 1 ≤ k := hk
    obtain ⟨l, h1, xs, h2, h3, h4⟩ := read_list (cQi k) (W := W) (base := base) (a := a) (len := len) (fun i hi => by
      obtain ⟨cs', k1, k2⟩ := hx i (by omega)
      rw [show Tryz.prog.cellsOf 28 = 4 from by kernel_rfl] at k1
      obtain ⟨p, q, hz⟩ := read_Frac (k := k) k2 (by have := bulk_mem (l := (List.range len).map D) (List.mem_map_of_mem (List.mem_range.2 hi)); show Rows.uptoBulk (D i) ≤ k; omega)
      exact ⟨(p, q), cs', _, k1, rfl, hz⟩)
    refine ⟨_, l, rfl, ⟨some a, len, cap, rfl, h1, hl, by unfold maxLen at hm; omega, fun hp => ⟨a, rfl, xs, h2, h3⟩⟩, ?_⟩
    show _ ≤ Rows.uptoBulkAll ((List.range len).map D) + Rows.uptoBulkAll ((List.range (m - len)).map fun j => D (len + j)) + 1
    omega
end
end Go.Proofs.YtmfgnbchehnpjaaGreat.V
/- How the model's orders of two floats read off their bits. Plain mathematics of words; no condition but that no word is a NaN where said. -/
namespace Go.Proofs.YtmfgnbchehnpjaaGreat.Fl
open Ieee

def rung (b : Nat) : Nat := b % 9223372036854775808
def sgn (b : Nat) : Bool := b / 9223372036854775808 % 2 == 1
def mag (r : Nat) : Nat := if r < 4503599627370496 then r else (4503599627370496 + r % 4503599627370496) * 2 ^ (r / 4503599627370496 - 1)
def INF : Nat := 9218868437227405312
def key (b : Nat) : Int := if sgn b then -(rung b : Int) else rung b
def isN (b : Nat) : Bool := decide (INF < rung b)

theorem d_sw : double.signWeight = 9223372036854775808 := by decide
theorem d_bin : double.binade = 4503599627370496 := by decide
theorem d_inf : double.infRung = 9218868437227405312 := by decide
theorem d_least : double.leastPlace = -1074 := by decide

theorem mag_step (r : Nat) : mag r < mag (r + 1) := by
  unfold mag
  by_cases h1 : r + 1 < 4503599627370496
  · rw [if_pos h1, if_pos (by omega)]; omega
  by_cases h2 : r < 4503599627370496
  · have e : r = 4503599627370495 := by omega
    subst e
    decide
  rw [if_neg h2, if_neg h1]
  obtain ⟨q, hq⟩ : ∃ q, r / 4503599627370496 = q + 1 := ⟨r / 4503599627370496 - 1, by omega⟩
  obtain ⟨t, ht⟩ : ∃ t, r % 4503599627370496 = t := ⟨_, rfl⟩
  have htl : t < 4503599627370496 := by omega
  by_cases h3 : t + 1 < 4503599627370496
  · have e1 : (r + 1) / 4503599627370496 = q + 1 := by omega
    have e2 : (r + 1) % 4503599627370496 = t + 1 := by omega
    rw [hq, ht, e1, e2]
    exact Nat.mul_lt_mul_of_pos_right (by omega) (Nat.two_pow_pos _)
  · have e1 : (r + 1) / 4503599627370496 = q + 2 := by omega
    have e2 : (r + 1) % 4503599627370496 = 0 := by omega
    rw [hq, ht, e1, e2, show q + 2 - 1 = (q + 1 - 1) + 1 from by omega, Nat.pow_succ]
    have := Nat.two_pow_pos (q + 1 - 1)
    generalize 2 ^ (q + 1 - 1) = z at this ⊢
    have e : t = 4503599627370495 := by omega
    subst e
    omega

theorem mag_lt {r s : Nat} (h : r < s) : mag r < mag s := by
  induction s with
  | zero => omega
  | succ s ih =>
    rcases Nat.lt_or_ge r s with h1 | h1
    · exact Nat.lt_trans (ih h1) (mag_step s)
    · have : r = s := by omega
      subst this; exact mag_step r

theorem mag_iff {r s : Nat} : mag r < mag s ↔ r < s := by
  refine ⟨fun h => ?_, mag_lt⟩
  rcases Nat.lt_trichotomy r s with h1 | h1 | h1
  · exact h1
  · subst h1; omega
  · have := mag_lt h1; omega

theorem mag_pos {r : Nat} : 0 < mag r ↔ 0 < r := by
  have := @mag_iff 0 r
  rwa [show mag 0 = 0 from rfl] at this

theorem read_num {b : Nat} (h : rung b < INF) : ∃ m e : Nat, double.read b = .number (sgn b) m (-1074 + (e : Int)) ∧ m * 2 ^ e = mag (rung b) := by
  unfold INF at h
  unfold Format.read
  rw [d_sw, d_bin, d_inf, d_least]
  show ∃ m e : Nat, (if rung b < 4503599627370496 then Datum.number (sgn b) (rung b) (-1074) else if rung b < 9218868437227405312 then .number (sgn b) (4503599627370496 + rung b % 4503599627370496) (-1074 + (rung b / 4503599627370496 - 1 : Nat)) else _) = _ ∧ _
  unfold mag
  by_cases h1 : rung b < 4503599627370496
  · rw [if_pos h1, if_pos h1]
    exact ⟨rung b, 0, by simp, by simp⟩
  · rw [if_neg h1, if_pos h, if_neg h1]
    exact ⟨_, _, rfl, rfl⟩

theorem read_inf {b : Nat} (h : rung b = INF) : double.read b = .infinity (sgn b) := by
  unfold INF at h
  unfold Format.read
  rw [d_sw, d_bin, d_inf, d_least]
  show (if rung b < 4503599627370496 then Datum.number (sgn b) (rung b) (-1074) else if rung b < 9218868437227405312 then .number (sgn b) (4503599627370496 + rung b % 4503599627370496) (-1074 + (rung b / 4503599627370496 - 1 : Nat)) else if rung b = 9218868437227405312 then .infinity (sgn b) else _) = _
  rw [if_neg (by omega), if_neg (by omega), if_pos h]

theorem read_nan {b : Nat} (h : INF < rung b) : ∃ s t, double.read b = .nan s t := by
  unfold INF at h
  unfold Format.read
  rw [d_sw, d_bin, d_inf, d_least]
  show ∃ s t, (if rung b < 4503599627370496 then Datum.number (sgn b) (rung b) (-1074) else if rung b < 9218868437227405312 then .number (sgn b) (4503599627370496 + rung b % 4503599627370496) (-1074 + (rung b / 4503599627370496 - 1 : Nat)) else if rung b = 9218868437227405312 then .infinity (sgn b) else .nan (sgn b) (rung b - 9218868437227405312)) = .nan s t
  rw [if_neg (by omega), if_neg (by omega), if_neg (by omega)]
  exact ⟨_, _, rfl⟩

theorem cmp_eq {a b c d : Int} (h1 : a < b ↔ c < d) (h2 : b < a ↔ d < c) : compare a b = compare c d := by
  simp only [compare, compareOfLessAndEq]
  by_cases x : a < b
  · rw [if_pos x, if_pos (h1.1 x)]
  · rw [if_neg x, if_neg (fun y => x (h1.2 y))]
    by_cases z : b < a
    · rw [if_neg (by omega), if_neg (by have := h2.1 z; omega)]
    · rw [if_pos (by omega), if_pos (by have := fun y => z (h2.2 y); have := fun y => x (h1.2 y); omega)]

theorem cmp_lt {a b : Int} (h : a < b) : compare a b = .lt := by
  simp only [compare, compareOfLessAndEq]; rw [if_pos h]
theorem cmp_gt {a b : Int} (h : b < a) : compare a b = .gt := by
  simp only [compare, compareOfLessAndEq]; rw [if_neg (by omega), if_neg (by omega)]

theorem signed_cmp (s t : Bool) (a b c d : Nat) (h1 : a < b ↔ c < d) (h2 : b < a ↔ d < c) (p1 : 0 < a ↔ 0 < c) (p2 : 0 < b ↔ 0 < d) :
    compare (if s then -(a : Int) else a) (if t then -(b : Int) else b) = compare (if s then -(c : Int) else c) (if t then -(d : Int) else d) := by
  refine cmp_eq ?_ ?_ <;> cases s <;> cases t <;> simp <;> omega

theorem order_num {x y : Nat} (hx : rung x < INF) (hy : rung y < INF) : double.order x y = some (compare (key x) (key y)) := by
  obtain ⟨m, e, h1, h2⟩ := read_num hx
  obtain ⟨n, f, h3, h4⟩ := read_num hy
  unfold Format.order
  rw [h1, h3]
  show some (compare (signed (sgn x) m (-1074 + (e : Int) - min (-1074 + (e : Int)) (-1074 + (f : Int))).toNat) (signed (sgn y) n (-1074 + (f : Int) - min (-1074 + (e : Int)) (-1074 + (f : Int))).toNat)) = _
  have e1 : (-1074 + (e : Int) - min (-1074 + (e : Int)) (-1074 + (f : Int))).toNat = e - min e f := by omega
  have e2 : (-1074 + (f : Int) - min (-1074 + (e : Int)) (-1074 + (f : Int))).toNat = f - min e f := by omega
  rw [e1, e2]
  unfold signed key
  congr 1
  have k1 : (m <<< (e - min e f)) * 2 ^ min e f = mag (rung x) := by
    rw [Nat.shiftLeft_eq, Nat.mul_assoc, ← Nat.pow_add, show e - min e f + min e f = e from by omega, h2]
  have k2 : (n <<< (f - min e f)) * 2 ^ min e f = mag (rung y) := by
    rw [Nat.shiftLeft_eq, Nat.mul_assoc, ← Nat.pow_add, show f - min e f + min e f = f from by omega, h4]
  have kp := Nat.two_pow_pos (min e f)
  refine signed_cmp _ _ _ _ _ _ ?_ ?_ ?_ ?_
  · rw [← @mag_iff (rung x), ← k1, ← k2]; exact (Nat.mul_lt_mul_right kp).symm
  · rw [← @mag_iff (rung y), ← k1, ← k2]; exact (Nat.mul_lt_mul_right kp).symm
  · rw [← @mag_pos (rung x), ← k1]; exact ⟨fun h => Nat.mul_pos h kp, fun h => Nat.pos_of_mul_pos_right h⟩
  · rw [← @mag_pos (rung y), ← k2]; exact ⟨fun h => Nat.mul_pos h kp, fun h => Nat.pos_of_mul_pos_right h⟩

/-- The order of two words that are no NaNs is that of their keys. -/
theorem order_key {x y : Nat} (hx : rung x ≤ INF) (hy : rung y ≤ INF) : double.order x y = some (compare (key x) (key y)) := by
  rcases Nat.lt_or_eq_of_le hx with hx | hx <;> rcases Nat.lt_or_eq_of_le hy with hy | hy
  · exact order_num hx hy
  · obtain ⟨m, e, h1, _⟩ := read_num hx
    unfold Format.order
    rw [h1, read_inf hy]
    show some (if sgn y then Ordering.gt else Ordering.lt) = _
    unfold key
    rw [hy]
    congr 1
    unfold INF at *
    cases sgn y <;> cases sgn x <;> first | exact (cmp_lt (by simp; omega)).symm | exact (cmp_gt (by simp; omega)).symm
  · obtain ⟨m, e, h1, _⟩ := read_num hy
    unfold Format.order
    rw [h1, read_inf hx]
    show some (if sgn x then Ordering.lt else Ordering.gt) = _
    unfold key
    rw [hx]
    congr 1
    unfold INF at *
    cases sgn y <;> cases sgn x <;> first | exact (cmp_lt (by simp; omega)).symm | exact (cmp_gt (by simp; omega)).symm
  · unfold Format.order
    rw [read_inf hx, read_inf hy]
    show some (compare (sgn y).toNat (sgn x).toNat) = _
    unfold key
    rw [hx, hy]
    cases sgn y <;> cases sgn x <;> decide

theorem order_nan {x y : Nat} (h : INF < rung x ∨ INF < rung y) : double.order x y = none := by
  unfold Format.order
  rcases h with h | h
  · obtain ⟨s, t, e⟩ := read_nan h
    rw [e]; rfl
  · obtain ⟨s, t, e⟩ := read_nan h
    rw [e]; cases double.read x <;> rfl

/-! ### The tests that the program makes -/
theorem sgn_of {b : Nat} (hb : b < 18446744073709551616) : sgn b = decide (9223372036854775808 ≤ b) := by
  unfold sgn
  by_cases h : 9223372036854775808 ≤ b
  · rw [decide_eq_true h, show b / 9223372036854775808 = 1 from by omega]; rfl
  · rw [decide_eq_false h, show b / 9223372036854775808 = 0 from by omega]; rfl
theorem rung_of {b : Nat} (hb : b < 18446744073709551616) : rung b = if 9223372036854775808 ≤ b then b - 9223372036854775808 else b := by
  unfold rung
  split <;> omega
theorem key_of {b : Nat} (hb : b < 18446744073709551616) : key b = if 9223372036854775808 ≤ b then 9223372036854775808 - (b : Int) else b := by
  unfold key
  rw [sgn_of hb, rung_of hb]
  by_cases h : 9223372036854775808 ≤ b
  · rw [decide_eq_true h, if_pos h, if_pos h, if_pos rfl]; omega
  · rw [decide_eq_false h, if_neg h, if_neg h]; rfl
theorem lt_of_cmp (a b : Int) : (some (compare a b) == some Ordering.lt) = decide (a < b) := by
  simp only [compare, compareOfLessAndEq]
  by_cases h : a < b
  · rw [if_pos h, decide_eq_true h]; rfl
  · by_cases h2 : a = b
    · rw [if_neg h, if_pos h2, decide_eq_false h]; rfl
    · rw [if_neg h, if_neg h2, decide_eq_false h]; rfl
theorem ord_lt (x y : Nat) : (FloatKind.f64.format.order x y == some .lt) = (!isN x && !isN y && decide (key x < key y)) := by
  show (double.order x y == some .lt) = _
  unfold isN
  by_cases h1 : INF < rung x
  · rw [order_nan (.inl h1), decide_eq_true h1]; rfl
  by_cases h2 : INF < rung y
  · rw [order_nan (.inr h2), decide_eq_true h2]; cases decide (INF < rung x) <;> rfl
  rw [order_key (by omega) (by omega), decide_eq_false h1, decide_eq_false h2, lt_of_cmp]; rfl
theorem ord_m {b : Nat} (hb : b < 18446744073709551616) (hn : isN b = false) (h0 : ¬ (b = 0 ∨ b = 9223372036854775808)) : (FloatKind.f64.format.order b 0 == some .lt) = decide (¬ b < 9223372036854775808) := by
  rw [ord_lt, hn, show isN 0 = false from by decide, key_of hb, show key 0 = 0 from by decide]
  simp only [Bool.not_false, Bool.true_and]
  refine decide_eq_decide.2 ?_
  split <;> omega
/-- The least float above, by its bits. -/
def up (b : Nat) : Nat := if isN b = true ∨ b = 9218868437227405312 then b else if b = 0 ∨ b = 9223372036854775808 then 1 else if b < 9223372036854775808 then b + 1 else b - 1
def ng (b : Nat) : Nat := Op.negFloat .f64 b
def dn (b : Nat) : Nat := ng (up (ng b))
def low (b : Nat) : Nat := if isN b = true then 18442240474082181120 else dn b
end Go.Proofs.YtmfgnbchehnpjaaGreat.Fl
/- Floats in the logic of calls: a float is a word that is no NaN, or some NaN. -/
set_option linter.unusedVariables false
set_option linter.unusedSimpArgs false
set_option maxRecDepth 100000
namespace Go.Proofs.YtmfgnbchehnpjaaGreat.V
open Go.RowKit Mt Nml

/-- A word, where it is no NaN. -/
def fo (b : Nat) : Option Nat := if Fl.isN b then none else some b
def T.F (o : Option Nat) : T := T.ex 1 false (fun b : Nat => b < 18446744073709551616 ∧ fo b = o) (fun b => T.c (.float .f64 b)) (fun _ => ⟨rfl, rfl, rfl⟩)
class BLt (b : Nat) : Prop where lt : b < 18446744073709551616
class IsF (X : T) (o : outParam (Option Nat)) : Prop where le : X.le (T.F o)
instance (o : Option Nat) : IsF (T.F o) o := ⟨.refl _⟩
instance (b : Nat) [h : BLt b] : IsF (T.c (.float .f64 b)) (fo b) := ⟨fun β u v k => ⟨b, ⟨h.lt, rfl⟩, k⟩⟩
instance : BLt 0 := ⟨by decide⟩
instance : BLt 9218868437227405311 := ⟨by decide⟩
instance : BLt 4602678819172646912 := ⟨by decide⟩
instance : BLt 4607182418800017408 := ⟨by decide⟩
def oLt : Option Nat → Option Nat → Bool
  | some x, some y => decide (Fl.key x < Fl.key y)
  | _, _ => false
theorem fo_lt (x y : Nat) : (FloatKind.f64.format.order x y == some .lt) = oLt (fo x) (fo y) := by
  rw [Fl.ord_lt]; unfold fo
  cases hx : Fl.isN x <;> cases hy : Fl.isN y <;> simp [oLt]
section
variable {P : Program} {ops : Array Oper} {fin : List OpS → List (Nat × T) → List (Nat × Option Ent) → Prop} {r : List Oper} {H : List OpS} {g : List (Nat × T)} {E : List (Nat × Option Ent)} {o : Oper}
variable {t : Option Nat} {ty : TypeId} {ps : String} {af : Array Edge} {gd : Option (Nat × Bool)} {x y : Operand} {X Y : T} {e off m n : Nat} {b : Bool} {et : TypeId} {a d : Option Nat}
end
section
variable {P : Program} {ops : Array Oper} {fin : List OpS → List (Nat × T) → List (Nat × Option Ent) → Prop} {r : List Oper} {H : List OpS} {g : List (Nat × T)} {E : List (Nat × Option Ent)}
variable {t : Option Nat} {ty : TypeId} {ps : String} {af : Array Edge} {gd : Option (Nat × Bool)} {X : T}
end
end Go.Proofs.YtmfgnbchehnpjaaGreat.V
/- Floats: the next one, infinities, the same. -/
set_option linter.unusedVariables false
set_option linter.unusedSimpArgs false
set_option maxRecDepth 100000
namespace Go.Proofs.YtmfgnbchehnpjaaGreat.V
open Go.RowKit Mt Nml
section
variable {P : Program} {ops : Array Oper} {fin : List OpS → List (Nat × T) → List (Nat × Option Ent) → Prop} {r : List Oper} {H : List OpS} {g : List (Nat × T)} {E : List (Nat × Option Ent)} {o : Oper}
variable {t : Option Nat} {ty : TypeId} {ps : String} {af : Array Edge} {gd : Option (Nat × Bool)} {x y : Operand} {X Y : T}
end
theorem lt0 {b : Nat} (hb : b < 18446744073709551616) (hn : Fl.isN b = false) (h : ¬ (b = 0 ∨ b = 9223372036854775808)) : oLt (fo b) (fo 0) = decide (¬ b < 9223372036854775808) := by rw [← fo_lt, Fl.ord_m hb hn h]

end Go.Proofs.YtmfgnbchehnpjaaGreat.V
/- Floats as fractions; the law of the floats beside each float. -/
set_option linter.unusedVariables false
set_option linter.unusedSimpArgs false
set_option maxRecDepth 100000
namespace Go.Proofs.YtmfgnbchehnpjaaGreat.V
open Go.RowKit Mt Nml
end Go.Proofs.YtmfgnbchehnpjaaGreat.V
/- Intervals: sums. -/
set_option linter.unusedVariables false
set_option linter.unusedSimpArgs false
set_option maxRecDepth 100000
namespace Go.Proofs.YtmfgnbchehnpjaaGreat.V
open Go.RowKit Mt Nml
end Go.Proofs.YtmfgnbchehnpjaaGreat.V
/- Intervals: what they hold. -/
set_option linter.unusedVariables false
set_option linter.unusedSimpArgs false
set_option maxRecDepth 100000
namespace Go.Proofs.YtmfgnbchehnpjaaGreat.V
open Go.RowKit Mt Nml
/-- A fraction however told. -/
abbrev T.Qi (a b : Int) (k : Nat) : T := T.st [T.Zi a k, T.Zi b k]
theorem qi_mono {a b : Int} {k k' : Nat} (h : k ≤ k') : (T.Qi a b k).le (T.Qi a b k') := st_le (l := [T.Zi a k, T.Zi b k]) (l' := [T.Zi a k', T.Zi b k']) ⟨zi_mono h, zi_mono h, trivial⟩
theorem q_qi (q : Rat) {k k' : Nat} (h : k ≤ k') : (T.Q q k).le (T.Qi q.num (q.den : Int) k') := st_le (l := [T.Z q.num k, T.Z (q.den : Int) k]) (l' := [T.Zi q.num k', T.Zi (q.den : Int) k']) ⟨(z_zi _ _).trans (zi_mono h), (z_zi _ _).trans (zi_mono h), trivial⟩
theorem rat_addG {a b c d : Int} (hb : b ≠ 0) (hd : d ≠ 0) : ((a * d + c * b : Int) : Rat) / ((b * d : Int) : Rat) = (a : Rat) / (b : Rat) + (c : Rat) / (d : Rat) := by
  rw [← Rat.divInt_eq_div, ← Rat.divInt_eq_div, ← Rat.divInt_eq_div, Rat.divInt_add_divInt _ _ hb hd]
theorem rat_mulG (a b c d : Int) : ((a * c : Int) : Rat) / ((b * d : Int) : Rat) = (a : Rat) / (b : Rat) * ((c : Rat) / (d : Rat)) := by
  rw [← Rat.divInt_eq_div, ← Rat.divInt_eq_div, ← Rat.divInt_eq_div, Rat.divInt_mul_divInt]
theorem rat_negG (a b : Int) : ((-a : Int) : Rat) / (b : Rat) = -((a : Rat) / (b : Rat)) := by
  rw [← Rat.divInt_eq_div, ← Rat.divInt_eq_div, Rat.neg_divInt]
theorem rat_nd (q : Rat) : ((q.num : Int) : Rat) / (((q.den : Int)) : Rat) = q := by rw [← Rat.divInt_eq_div, Rat.num_divInt_den]
instance (k : Nat) (q : Int × Int) : Sp ((cQi k).X q) [T.Zi q.1 k, T.Zi q.2 k] := inferInstanceAs (Sp (T.st [T.Zi q.1 k, T.Zi q.2 k]) _)
theorem two_pos {a b c d : Int} (hb : 0 < b) (hd : 0 < d) : ∀ i, i < [(a, b), (c, d)].length → 0 < ([(a, b), (c, d)].getD i (0, 0)).2 := fun i hi => by
  match i, hi with
  | 0, _ => exact hb
  | 1, _ => exact hd

theorem rat_validG {l : List (Int × Int)} {k : Nat} (hk : k ≤ 34359738368) (hl : l.length ≤ 1048576) (hp : ∀ i, i < l.length → 0 < (l.getD i (0, 0)).2) : Fn Tryz.prog 60 [T.l (cQi k) l] [] [] [] (T.c (.int .i64 0)) := by
  refine fn_of Tryz.func60 rfl (by show 1 ≤ 16; decide) fun cx hcx => ?_
  refine tri_sub (sl 0 rfl sn) en ?_
  refine tri_seq ?_
  refine tri_reg mixed hcx ?_ _ _
  refine asg rfl ?_
  refine ⟨by kernel_rfl, ?_⟩
  refine nx (sl 0 rfl sn) en ?_
  refine tri_seq ?_
  refine tri_seq ?_
  refine tri_reg mixed hcx ?_ _ _
  refine mv rfl ?_
  refine ln slQs rfl ?_
  refine mv rfl ?_
  refine ⟨by kernel_rfl, ?_⟩
  refine nx (sl 5 rfl (sl 6 rfl (sl 7 rfl sn))) en ?_
  refine tri_block ?_
  refine tri_loop (ι := Nat) (fun i => [(5, T.l (cQi k) l), (6, T.c (.int .i64 (l.length : Int))), (7, T.c (.int .i64 (i : Int)))]) (fun i => []) (fun i => l.length - i) (fun i => (i ≤ l.length)) 0 (Nat.zero_le _) (sl 5 rfl (sl 6 rfl (sl 7 rfl sn))) en ?_
  rintro i hi
  refine tri_sub (sl 5 rfl (sl 6 rfl (sl 7 rfl sn))) en ?_
  refine tri_seq ?_
  refine tri_reg mixed hcx ?_ _ _
  refine clt rfl rfl rfl ?_
  refine ⟨by kernel_rfl, ?_⟩
  refine nx (sl 5 rfl (sl 6 rfl (sl 7 rfl (sl 8 rfl sn)))) en ?_
  refine tri_seq ?_
  refine tri_if rfl (fun hc => ?_) (fun hc => ?_)
  · have hsg : sg (l.getD i (cQi k).dflt).2 = 1 := sg_pos (hp i (by omega))
    refine tri_skip ?_
    refine nx (sl 5 rfl (sl 6 rfl (sl 7 rfl sn))) en ?_
    refine tri_seq ?_
    refine tri_block ?_
    refine tri_seq ?_
    refine tri_reg mixed hcx ?_ _ _
    refine ix rfl rfl slQs ⟨rfl, by omega⟩ ?_
    refine lf rfl tyQ ?_
    refine nw 312 zeQ ?_
    refine sts (zz := [T.Zi (l.getD i (cQi k).dflt).1 k, T.Zi (l.getD i (cQi k).dflt).2 k]) rfl rfl rfl tyQ rfl ?_
    refine ⟨by kernel_rfl, ?_⟩
    refine nx (sl 4 rfl (sl 5 rfl (sl 6 rfl (sl 7 rfl sn)))) (el 312 rfl en) ?_
    refine tri_seq ?_
    refine tri_reg mixed hcx ?_ _ _
    refine fa rfl fDen 2 ?_
    refine ld rfl rfl tyZ rfl ?_
    refine ca rfl (h := zi_Sign (by omega)) (hn := ?_)
    refine cle rfl rfl (decide_eq_false (by omega)) ?_
    refine ⟨by kernel_rfl, ?_⟩
    refine nx (sl 5 rfl (sl 6 rfl (sl 7 rfl (sl 14 rfl sn)))) (el 312 rfl en) ?_
    refine tri_false rfl rfl ?_
    refine tri_skip ?_
    refine pn_blk ?_
    refine nx (sl 5 rfl (sl 6 rfl (sl 7 rfl sn))) (el 312 rfl en) ?_
    refine tri_reg mixed hcx ?_ _ _
    refine ad (((i + 1 : Nat) : Int)) rfl rfl rfl (by omega) ?_
    refine mv rfl ?_
    refine ⟨by kernel_rfl, ?_⟩
    exact pn_back (i + 1) (by first | omega | (dsimp only; omega)) (by omega) (sl 5 rfl (sl 6 rfl (sl 7 rfl sn))) en
  · refine tri_exit ?_
    repeat (first | refine pn_then ?_ | refine pn_oth (by decide) ?_)
    refine pn_ex ?_
    refine nx sn en ?_
    refine tri_seq ?_
    refine tri_reg mixed hcx ?_ _ _
    refine asg rfl ?_
    refine ⟨by kernel_rfl, ?_⟩
    refine nx (sl 2 rfl sn) en ?_
    refine tri_ret ?_
    repeat (first | refine pn_thenr ?_ | refine pn_blkr ?_)
    exact ret1 hcx rfl (rv_tmp rfl) (.refl _) en

theorem r03_NegG {a b : Int} {k : Nat} (hb : b ≠ 0) (hk : k ≤ 68719476736) : Fn Tryz.prog 41 [T.Qi a b k] [] [] [] (T.Q (-((a : Rat) / (b : Rat))) (k + k)) := by
  refine fn_of Tryz.func41 rfl (by show 1 ≤ 9; decide) fun cx hcx => ?_
  refine tri_sub (sl 0 rfl sn) en ?_
  refine tri_seq ?_
  refine tri_reg mixed hcx ?_ _ _
  refine bxs 10 rfl ?_
  refine nw 11 zeQ ?_
  refine ⟨by kernel_rfl, ?_⟩
  refine nx (sl 1 rfl (sl 2 rfl sn)) (el 10 rfl (el 11 rfl en)) ?_
  refine tri_seq ?_
  refine tri_reg mixed hcx ?_ _ _
  refine fa rfl fNum 0 ?_
  refine ld rfl rfl tyZ rfl ?_
  refine ca rfl (h := r02_Neg (by omega)) (hn := ?_)
  refine fa rfl fDen 2 ?_
  refine ld rfl rfl tyZ rfl ?_
  refine ca rfl (h := r03_Make (by first | assumption | omega) (by omega) (by omega)) (hn := ?_)
  refine st rfl rfl rfl tyQ rfl ?_
  refine ⟨by kernel_rfl, ?_⟩
  refine nx (sl 2 rfl sn) (el 10 rfl (el 11 rfl en)) ?_
  refine tri_ret ?_
  repeat (first | refine pn_thenr ?_ | refine pn_blkr ?_)
  exact ret1 hcx rfl (rv_cell (c' := cx) (n := 0) rfl rfl tyQ rfl) (q_eq (rat_negG a b) (Nat.le_refl _)) en

theorem r03_AddG {a b c d : Int} {k l : Nat} (hb0 : b ≠ 0) (hd0 : d ≠ 0) (hk : k ≤ 68719476736) (hl : l ≤ 68719476736) : Fn Tryz.prog 17 [T.Qi a b k, T.Qi c d l] [] [] [] (T.Q ((a : Rat) / (b : Rat) + (c : Rat) / (d : Rat)) (3 * (k + l) + 1)) := by
  refine fn_of Tryz.func17 rfl (by show 2 ≤ 26; decide) fun cx hcx => ?_
  refine tri_sub (sl 0 rfl (sl 1 rfl sn)) en ?_
  have hbd0 : b * d ≠ 0 := Int.mul_ne_zero hb0 hd0
  refine tri_seq ?_
  refine tri_reg mixed hcx ?_ _ _
  refine bxs 10 rfl ?_
  refine bxs 11 rfl ?_
  refine nw 12 zeQ ?_
  refine ⟨by kernel_rfl, ?_⟩
  refine nx (sl 2 rfl (sl 3 rfl (sl 4 rfl sn))) (el 10 rfl (el 11 rfl (el 12 rfl en))) ?_
  refine tri_seq ?_
  refine tri_reg mixed hcx ?_ _ _
  refine fa rfl fNum 0 ?_
  refine ld rfl rfl tyZ rfl ?_
  refine fa rfl fDen 2 ?_
  refine ld rfl rfl tyZ rfl ?_
  refine ca rfl (h := r02_Mul (by omega) (by omega)) (hn := ?_)
  refine nw 115 zeZ ?_
  refine st rfl rfl rfl tyZ rfl ?_
  refine ⟨by kernel_rfl, ?_⟩
  refine nx (sl 2 rfl (sl 3 rfl (sl 4 rfl (sl 5 rfl sn)))) (el 10 rfl (el 11 rfl (el 12 rfl (el 115 rfl en)))) ?_
  refine tri_seq ?_
  refine tri_reg mixed hcx ?_ _ _
  refine fa rfl fNum 0 ?_
  refine ld rfl rfl tyZ rfl ?_
  refine fa rfl fDen 2 ?_
  refine ld rfl rfl tyZ rfl ?_
  refine ca rfl (h := r02_Mul (by omega) (by omega)) (hn := ?_)
  refine nw 215 zeZ ?_
  refine st rfl rfl rfl tyZ rfl ?_
  refine ⟨by kernel_rfl, ?_⟩
  refine nx (sl 2 rfl (sl 3 rfl (sl 4 rfl (sl 5 rfl (sl 6 rfl sn))))) (el 10 rfl (el 11 rfl (el 12 rfl (el 115 rfl (el 215 rfl en))))) ?_
  refine tri_seq ?_
  refine tri_reg mixed hcx ?_ _ _
  refine ld rfl rfl tyZ rfl ?_
  refine ld rfl rfl tyZ rfl ?_
  refine ca rfl (h := r02_Add (by omega) (by omega)) (hn := ?_)
  refine fa rfl fDen 2 ?_
  refine ld rfl rfl tyZ rfl ?_
  refine fa rfl fDen 2 ?_
  refine ld rfl rfl tyZ rfl ?_
  refine ca rfl (h := r02_Mul (by omega) (by omega)) (hn := ?_)
  refine ca rfl (h := r03_Make (by first | assumption | omega) (by omega) (by omega)) (hn := ?_)
  refine st rfl rfl rfl tyQ rfl ?_
  refine ⟨by kernel_rfl, ?_⟩
  refine nx (sl 4 rfl sn) (el 10 rfl (el 11 rfl (el 12 rfl (el 115 rfl (el 215 rfl en))))) ?_
  refine tri_ret ?_
  repeat (first | refine pn_thenr ?_ | refine pn_blkr ?_)
  exact ret1 hcx rfl (rv_cell (c' := cx) (n := 0) rfl rfl tyQ rfl) (q_eq (rat_addG hb0 hd0) (by omega)) en

theorem subG (x : Rat) {c d : Int} : x + ((-((c : Rat) / (d : Rat))).num : Rat) / (((-((c : Rat) / (d : Rat))).den : Int) : Rat) = x - (c : Rat) / (d : Rat) := by rw [rat_nd]; exact (Rat.sub_eq_add_neg _ _).symm

theorem r03_SubG {a b c d : Int} {k l : Nat} (hb : 0 < b) (hd : 0 < d) (hk : k ≤ 17179869184) (hl : l ≤ 17179869184) : Fn Tryz.prog 14 [T.Qi a b k, T.Qi c d l] [] [] [] (T.Q ((a : Rat) / (b : Rat) - (c : Rat) / (d : Rat)) (3 * (k + (l + l)) + 1)) := by
  refine fn_of Tryz.func14 rfl (by show 2 ≤ 9; decide) fun cx hcx => ?_
  refine tri_sub (sl 0 rfl (sl 1 rfl sn)) en ?_
  have hb0 : b ≠ 0 := by omega
  have hd0 : d ≠ 0 := by omega
  have hn := den_ne (-((c : Rat) / (d : Rat)))
  refine tri_seq ?_
  refine tri_reg mixed hcx ?_ _ _
  refine bxs 10 rfl ?_
  refine bxs 11 rfl ?_
  refine nw 12 zeQ ?_
  refine ⟨by kernel_rfl, ?_⟩
  refine nx (sl 2 rfl (sl 3 rfl (sl 4 rfl sn))) (el 10 rfl (el 11 rfl (el 12 rfl en))) ?_
  refine tri_seq ?_
  refine tri_reg mixed hcx ?_ _ _
  refine ld rfl rfl tyQ rfl ?_
  refine ld rfl rfl tyQ rfl ?_
  refine ca rfl (h := r03_NegG hd0 (by omega)) (hn := ?_)
  refine ca rfl (h := r03_AddG hb0 hn (by omega) (by omega)) (hn := ?_)
  refine st rfl rfl rfl tyQ rfl ?_
  refine ⟨by kernel_rfl, ?_⟩
  refine nx (sl 4 rfl sn) (el 10 rfl (el 11 rfl (el 12 rfl en))) ?_
  refine tri_ret ?_
  repeat (first | refine pn_thenr ?_ | refine pn_blkr ?_)
  exact ret1 hcx rfl (rv_cell (c' := cx) (n := 0) rfl rfl tyQ rfl) (q_eq (subG _) (Nat.le_refl _)) en

theorem sg_pos_iff {b : Int} : 0 < sg b ↔ 0 < b := by unfold sg sgnc; split <;> (try split) <;> omega

theorem r03_ValidG {a b : Int} {k : Nat} {q : Bool} (hq : q = true ↔ 0 < b) (hk : k ≤ 17179869184) : Fn Tryz.prog 12 [T.Qi a b k] [] [] [] (T.c (.bool q)) := by
  refine fn_of Tryz.func12 rfl (by show 1 ≤ 7; decide) fun cx hcx => ?_
  refine tri_sub (sl 0 rfl sn) en ?_
  have hs := @sg_pos_iff b
  refine tri_seq ?_
  refine tri_reg mixed hcx ?_ _ _
  refine bxs 10 rfl ?_
  refine asg rfl ?_
  refine ⟨by kernel_rfl, ?_⟩
  refine nx (sl 1 rfl sn) (el 10 rfl en) ?_
  refine tri_seq ?_
  refine tri_reg mixed hcx ?_ _ _
  refine fa rfl fDen 2 ?_
  refine ld rfl rfl tyZ rfl ?_
  refine ca rfl (h := r02_Sign (by omega)) (hn := ?_)
  refine cgt rfl rfl rfl ?_
  refine asg rfl ?_
  refine ⟨by kernel_rfl, ?_⟩
  refine nx (sl 2 rfl sn) (el 10 rfl en) ?_
  refine tri_ret ?_
  repeat (first | refine pn_thenr ?_ | refine pn_blkr ?_)
  exact ret1 hcx rfl (rv_tmp rfl) (.of (by rw [show decide ((0 : Int) < sg b) = q from by cases q <;> simp_all])) en

section
variable {P : Program} {x : Code} {Q : Exit → Act → World → Prop} {ctx : Ctx} {n : Nat} {g : List (Nat × T)} {E : List (Nat × Option Ent)}
end
end Go.Proofs.YtmfgnbchehnpjaaGreat.V
/- Sums, differences, products, quotients of any fractions. -/
set_option linter.unusedVariables false
set_option linter.unusedSimpArgs false
set_option maxRecDepth 100000
namespace Go.Proofs.YtmfgnbchehnpjaaGreat.V
open Go.RowKit Mt Nml
theorem rat_subG {a b c d : Int} (hb : b ≠ 0) (hd : d ≠ 0) : ((a * d - c * b : Int) : Rat) / ((b * d : Int) : Rat) = (a : Rat) / (b : Rat) - (c : Rat) / (d : Rat) := by
  rw [Rat.sub_eq_add_neg, ← rat_negG, ← rat_addG hb hd, Int.sub_eq_add_neg, Int.neg_mul]
theorem rat_divG {a b c d : Int} (hb : b ≠ 0) (hc : c ≠ 0) (hd : d ≠ 0) : ((a * d : Int) : Rat) / ((b * c : Int) : Rat) = (a : Rat) / (b : Rat) / ((c : Rat) / (d : Rat)) := by
  have h1 := rat_ne hb
  have h2 := rat_ne hc
  have h3 := rat_ne hd
  rw [Rat.intCast_mul, Rat.intCast_mul]
  generalize (a : Rat) = p
  generalize (b : Rat) = q at h1
  generalize (c : Rat) = r at h2
  generalize (d : Rat) = s at h3
  grind
theorem sgn_ne {c : Int} (h : c ≠ 0) : sg c ≠ 0 := by unfold sg sgnc; split <;> (try split) <;> omega

theorem rat_twoG {a b c d : Int} {s : Rat} {k l m : Nat} {f : FuncId} {Cs : List T} (hb : 0 < b) (hd : 0 < d) (hf : Fn Tryz.prog f Cs [] [] [] (T.Q s m)) (hen : Enters Tryz.prog f) (hns : Cs.flatMap (·.ns) = []) (hk : k ≤ 17179869184) (hl : l ≤ 17179869184) : Fn Tryz.prog 54 [T.Qi a b k, T.Qi c d l, T.clo f Cs hns] [] [] [] (T.tup [T.Q s m, T.c (.int .i64 0)]) := by
  refine fn_of Tryz.func54 rfl (by show 3 ≤ 19; decide) fun cx hcx => ?_
  refine tri_sub (sl 0 rfl (sl 1 rfl (sl 2 rfl sn))) en ?_
  refine tri_seq ?_
  refine tri_reg mixed hcx ?_ _ _
  refine bxs 10 rfl ?_
  refine bxs 11 rfl ?_
  refine nw 12 zeQ ?_
  refine asg rfl ?_
  refine ⟨by kernel_rfl, ?_⟩
  refine nx (sl 2 rfl (sl 3 rfl (sl 4 rfl (sl 6 rfl sn)))) (el 10 rfl (el 11 rfl (el 12 rfl en))) ?_
  refine tri_seq ?_
  refine tri_seq ?_
  refine tri_reg mixed hcx ?_ _ _
  refine ld rfl rfl tyQ rfl ?_
  refine ld rfl rfl tyQ rfl ?_
  refine bs (c := cQi (k + l)) (xs := [(a, b), (c, d)]) slQs rfl ⟨qi_mono (by omega), qi_mono (by omega), trivial⟩ ?_
  refine ca rfl (h := rat_validG (by omega) (by simp) (two_pos hb hd)) (hn := ?_)
  refine asg rfl ?_
  refine ⟨by kernel_rfl, ?_⟩
  refine nx (sl 2 rfl (sl 6 rfl (sl 8 rfl sn))) (el 10 rfl (el 11 rfl (el 12 rfl en))) ?_
  refine tri_seq ?_
  refine tri_reg mixed hcx ?_ _ _
  refine mv rfl ?_
  refine cne rfl rfl (decide_eq_false (by omega)) ?_
  refine ⟨by kernel_rfl, ?_⟩
  refine nx (sl 2 rfl (sl 6 rfl (sl 8 rfl (sl 14 rfl sn)))) (el 10 rfl (el 11 rfl (el 12 rfl en))) ?_
  refine tri_false rfl rfl ?_
  refine tri_skip ?_
  refine nx (sl 2 rfl (sl 6 rfl sn)) (el 10 rfl (el 11 rfl (el 12 rfl en))) ?_
  refine tri_seq ?_
  refine tri_as 2 (Z := T.fn f Cs) rfl clo_ge ?_
  refine tri_reg mixed hcx ?_ _ _
  refine mv rfl ?_
  refine cf rfl rfl hf hen ?_
  refine st rfl rfl rfl tyQ rfl ?_
  refine asg rfl ?_
  refine ⟨by kernel_rfl, ?_⟩
  refine nx (sl 6 rfl (sl 7 rfl sn)) (el 10 rfl (el 11 rfl (el 12 rfl en))) ?_
  refine tri_ret ?_
  repeat (first | refine pn_thenr ?_ | refine pn_blkr ?_)
  exact ret2 hcx rfl (rv_cell (c' := cx) (n := 0) rfl rfl tyQ rfl) (rv_tmp rfl) (.refl _) en

theorem rat_Add1G {a b c d : Int} {k l : Nat} (hb : 0 < b) (hd : 0 < d) (hk : k ≤ 17179869184) (hl : l ≤ 17179869184) : Fn Tryz.prog 63 [T.fp (T.Qi a b k), T.fp (T.Qi c d l)] [] [] [] (T.Q ((a : Rat) / (b : Rat) + ((c : Rat) / (d : Rat))) (3 * (k + l) + 1)) := by
  refine fn_of Tryz.func63 rfl (by show 2 ≤ 20; decide) fun cx hcx => ?_
  refine tri_sub (sl 0 rfl (sl 1 rfl sn)) en ?_
  have hb0 : b ≠ 0 := by omega
  have hd0 : d ≠ 0 := by omega
  have hbd0 : b * d ≠ 0 := Int.mul_ne_zero hb0 hd0
  refine tri_seq ?_
  refine tri_reg mixed hcx ?_ _ _
  refine nw 10 zeQ ?_
  refine ⟨by kernel_rfl, ?_⟩
  refine nx (sl 0 rfl (sl 1 rfl (sl 2 rfl sn))) (el 10 rfl en) ?_
  refine tri_seq ?_
  refine tri_reg mixed hcx ?_ _ _
  refine ff rfl fNum rfl ?_
  refine lf rfl tyZ ?_
  refine ff rfl fDen rfl ?_
  refine lf rfl tyZ ?_
  refine ca rfl (h := zi_Mul (by omega) (by omega)) (hn := ?_)
  refine ff rfl fNum rfl ?_
  refine lf rfl tyZ ?_
  refine ff rfl fDen rfl ?_
  refine lf rfl tyZ ?_
  refine ca rfl (h := zi_Mul (by omega) (by omega)) (hn := ?_)
  refine ca rfl (h := zi_Add (by omega) (by omega)) (hn := ?_)
  refine ff rfl fDen rfl ?_
  refine lf rfl tyZ ?_
  refine ff rfl fDen rfl ?_
  refine lf rfl tyZ ?_
  refine ca rfl (h := zi_Mul (by omega) (by omega)) (hn := ?_)
  refine ca rfl (h := rat_mk (by assumption) (by omega) (by omega)) (hn := ?_)
  refine st rfl rfl rfl tyQ rfl ?_
  refine ⟨by kernel_rfl, ?_⟩
  refine nx (sl 2 rfl sn) (el 10 rfl en) ?_
  refine tri_ret ?_
  repeat (first | refine pn_thenr ?_ | refine pn_blkr ?_)
  exact ret1 hcx rfl (rv_cell (c' := cx) (n := 0) rfl rfl tyQ rfl) (q_eq (rat_addG hb0 hd0) (by omega)) en

theorem rat_AddG {a b c d : Int} {k l : Nat} (hb : 0 < b) (hd : 0 < d) (hk : k ≤ 17179869184) (hl : l ≤ 17179869184) : Fn Tryz.prog 36 [T.Qi a b k, T.Qi c d l] [] [] [] (T.tup [T.Q ((a : Rat) / (b : Rat) + ((c : Rat) / (d : Rat))) (3 * (k + l) + 1), T.c (.int .i64 0)]) := by
  refine fn_of Tryz.func36 rfl (by show 2 ≤ 12; decide) fun cx hcx => ?_
  refine tri_sub (sl 0 rfl (sl 1 rfl sn)) en ?_
  have hfn := rat_Add1G (a := a) (b := b) (c := c) (d := d) hb hd hk hl
  have hclo := clo_le (f := 63) (Cs := [T.fp (T.Qi a b k), T.fp (T.Qi c d l)]) (h := rfl)
  refine tri_seq ?_
  refine tri_reg mixed hcx ?_ _ _
  refine bxs 10 rfl ?_
  refine bxs 11 rfl ?_
  refine nw 12 zeQ ?_
  refine asg rfl ?_
  refine ⟨by kernel_rfl, ?_⟩
  refine nx (sl 2 rfl (sl 3 rfl (sl 4 rfl sn))) (el 10 rfl (el 11 rfl (el 12 rfl en))) ?_
  refine tri_seq ?_
  refine tri_fzb 2 10 rfl rfl (by show (4 : Nat) ≠ 0; decide) ?_
  refine tri_fzb 3 11 rfl rfl (by show (4 : Nat) ≠ 0; decide) ?_
  refine tri_sub (sl 2 rfl (sl 3 rfl (sl 4 rfl sn))) (el 12 rfl en) ?_
  refine tri_reg mixed hcx ?_ _ _
  refine lf rfl tyQ ?_
  refine lf rfl tyQ ?_
  refine mf rfl ?_
  refine ca rfl (h := rat_twoG hb hd hfn (by intro a w; kernel_rfl) rfl (by omega) (by omega)) (hn := ?_)
  refine ex rfl rfl ?_
  refine ex rfl rfl ?_
  refine st rfl rfl rfl tyQ rfl ?_
  refine asg rfl ?_
  refine ⟨by kernel_rfl, ?_⟩
  refine nx (sl 4 rfl (sl 5 rfl sn)) (el 12 rfl en) ?_
  refine tri_ret ?_
  repeat (first | refine pn_thenr ?_ | refine pn_blkr ?_)
  exact ret2 hcx rfl (rv_cell (c' := cx) (n := 0) rfl rfl tyQ rfl) (rv_tmp rfl) (.refl _) en

theorem rat_Sub1G {a b c d : Int} {k l : Nat} (hb : 0 < b) (hd : 0 < d) (hk : k ≤ 17179869184) (hl : l ≤ 17179869184) : Fn Tryz.prog 58 [T.fp (T.Qi a b k), T.fp (T.Qi c d l)] [] [] [] (T.Q ((a : Rat) / (b : Rat) - ((c : Rat) / (d : Rat))) (3 * (k + l) + 1)) := by
  refine fn_of Tryz.func58 rfl (by show 2 ≤ 20; decide) fun cx hcx => ?_
  refine tri_sub (sl 0 rfl (sl 1 rfl sn)) en ?_
  have hb0 : b ≠ 0 := by omega
  have hd0 : d ≠ 0 := by omega
  have hbd0 : b * d ≠ 0 := Int.mul_ne_zero hb0 hd0
  refine tri_seq ?_
  refine tri_reg mixed hcx ?_ _ _
  refine nw 10 zeQ ?_
  refine ⟨by kernel_rfl, ?_⟩
  refine nx (sl 0 rfl (sl 1 rfl (sl 2 rfl sn))) (el 10 rfl en) ?_
  refine tri_seq ?_
  refine tri_reg mixed hcx ?_ _ _
  refine ff rfl fNum rfl ?_
  refine lf rfl tyZ ?_
  refine ff rfl fDen rfl ?_
  refine lf rfl tyZ ?_
  refine ca rfl (h := zi_Mul (by omega) (by omega)) (hn := ?_)
  refine ff rfl fNum rfl ?_
  refine lf rfl tyZ ?_
  refine ff rfl fDen rfl ?_
  refine lf rfl tyZ ?_
  refine ca rfl (h := zi_Mul (by omega) (by omega)) (hn := ?_)
  refine ca rfl (h := zi_Sub (by omega) (by omega)) (hn := ?_)
  refine ff rfl fDen rfl ?_
  refine lf rfl tyZ ?_
  refine ff rfl fDen rfl ?_
  refine lf rfl tyZ ?_
  refine ca rfl (h := zi_Mul (by omega) (by omega)) (hn := ?_)
  refine ca rfl (h := rat_mk (by assumption) (by omega) (by omega)) (hn := ?_)
  refine st rfl rfl rfl tyQ rfl ?_
  refine ⟨by kernel_rfl, ?_⟩
  refine nx (sl 2 rfl sn) (el 10 rfl en) ?_
  refine tri_ret ?_
  repeat (first | refine pn_thenr ?_ | refine pn_blkr ?_)
  exact ret1 hcx rfl (rv_cell (c' := cx) (n := 0) rfl rfl tyQ rfl) (q_eq (rat_subG hb0 hd0) (by omega)) en

theorem rat_SubG {a b c d : Int} {k l : Nat} (hb : 0 < b) (hd : 0 < d) (hk : k ≤ 17179869184) (hl : l ≤ 17179869184) : Fn Tryz.prog 32 [T.Qi a b k, T.Qi c d l] [] [] [] (T.tup [T.Q ((a : Rat) / (b : Rat) - ((c : Rat) / (d : Rat))) (3 * (k + l) + 1), T.c (.int .i64 0)]) := by
  refine fn_of Tryz.func32 rfl (by show 2 ≤ 12; decide) fun cx hcx => ?_
  refine tri_sub (sl 0 rfl (sl 1 rfl sn)) en ?_
  have hfn := rat_Sub1G (a := a) (b := b) (c := c) (d := d) hb hd hk hl
  have hclo := clo_le (f := 58) (Cs := [T.fp (T.Qi a b k), T.fp (T.Qi c d l)]) (h := rfl)
  refine tri_seq ?_
  refine tri_reg mixed hcx ?_ _ _
  refine bxs 10 rfl ?_
  refine bxs 11 rfl ?_
  refine nw 12 zeQ ?_
  refine asg rfl ?_
  refine ⟨by kernel_rfl, ?_⟩
  refine nx (sl 2 rfl (sl 3 rfl (sl 4 rfl sn))) (el 10 rfl (el 11 rfl (el 12 rfl en))) ?_
  refine tri_seq ?_
  refine tri_fzb 2 10 rfl rfl (by show (4 : Nat) ≠ 0; decide) ?_
  refine tri_fzb 3 11 rfl rfl (by show (4 : Nat) ≠ 0; decide) ?_
  refine tri_sub (sl 2 rfl (sl 3 rfl (sl 4 rfl sn))) (el 12 rfl en) ?_
  refine tri_reg mixed hcx ?_ _ _
  refine lf rfl tyQ ?_
  refine lf rfl tyQ ?_
  refine mf rfl ?_
  refine ca rfl (h := rat_twoG hb hd hfn (by intro a w; kernel_rfl) rfl (by omega) (by omega)) (hn := ?_)
  refine ex rfl rfl ?_
  refine ex rfl rfl ?_
  refine st rfl rfl rfl tyQ rfl ?_
  refine asg rfl ?_
  refine ⟨by kernel_rfl, ?_⟩
  refine nx (sl 4 rfl (sl 5 rfl sn)) (el 12 rfl en) ?_
  refine tri_ret ?_
  repeat (first | refine pn_thenr ?_ | refine pn_blkr ?_)
  exact ret2 hcx rfl (rv_cell (c' := cx) (n := 0) rfl rfl tyQ rfl) (rv_tmp rfl) (.refl _) en

theorem rat_Mul1G {a b c d : Int} {k l : Nat} (hb : 0 < b) (hd : 0 < d) (hk : k ≤ 17179869184) (hl : l ≤ 17179869184) : Fn Tryz.prog 55 [T.fp (T.Qi a b k), T.fp (T.Qi c d l)] [] [] [] (T.Q ((a : Rat) / (b : Rat) * ((c : Rat) / (d : Rat))) (2 * (k + l))) := by
  refine fn_of Tryz.func55 rfl (by show 2 ≤ 14; decide) fun cx hcx => ?_
  refine tri_sub (sl 0 rfl (sl 1 rfl sn)) en ?_
  have hb0 : b ≠ 0 := by omega
  have hd0 : d ≠ 0 := by omega
  have hbd0 : b * d ≠ 0 := Int.mul_ne_zero hb0 hd0
  refine tri_seq ?_
  refine tri_reg mixed hcx ?_ _ _
  refine nw 10 zeQ ?_
  refine ⟨by kernel_rfl, ?_⟩
  refine nx (sl 0 rfl (sl 1 rfl (sl 2 rfl sn))) (el 10 rfl en) ?_
  refine tri_seq ?_
  refine tri_reg mixed hcx ?_ _ _
  refine ff rfl fNum rfl ?_
  refine lf rfl tyZ ?_
  refine ff rfl fNum rfl ?_
  refine lf rfl tyZ ?_
  refine ca rfl (h := zi_Mul (by omega) (by omega)) (hn := ?_)
  refine ff rfl fDen rfl ?_
  refine lf rfl tyZ ?_
  refine ff rfl fDen rfl ?_
  refine lf rfl tyZ ?_
  refine ca rfl (h := zi_Mul (by omega) (by omega)) (hn := ?_)
  refine ca rfl (h := rat_mk (by assumption) (by omega) (by omega)) (hn := ?_)
  refine st rfl rfl rfl tyQ rfl ?_
  refine ⟨by kernel_rfl, ?_⟩
  refine nx (sl 2 rfl sn) (el 10 rfl en) ?_
  refine tri_ret ?_
  repeat (first | refine pn_thenr ?_ | refine pn_blkr ?_)
  exact ret1 hcx rfl (rv_cell (c' := cx) (n := 0) rfl rfl tyQ rfl) (q_eq (rat_mulG _ _ _ _) (by omega)) en

theorem rat_MulG {a b c d : Int} {k l : Nat} (hb : 0 < b) (hd : 0 < d) (hk : k ≤ 17179869184) (hl : l ≤ 17179869184) : Fn Tryz.prog 31 [T.Qi a b k, T.Qi c d l] [] [] [] (T.tup [T.Q ((a : Rat) / (b : Rat) * ((c : Rat) / (d : Rat))) (2 * (k + l)), T.c (.int .i64 0)]) := by
  refine fn_of Tryz.func31 rfl (by show 2 ≤ 12; decide) fun cx hcx => ?_
  refine tri_sub (sl 0 rfl (sl 1 rfl sn)) en ?_
  have hfn := rat_Mul1G (a := a) (b := b) (c := c) (d := d) hb hd hk hl
  have hclo := clo_le (f := 55) (Cs := [T.fp (T.Qi a b k), T.fp (T.Qi c d l)]) (h := rfl)
  refine tri_seq ?_
  refine tri_reg mixed hcx ?_ _ _
  refine bxs 10 rfl ?_
  refine bxs 11 rfl ?_
  refine nw 12 zeQ ?_
  refine asg rfl ?_
  refine ⟨by kernel_rfl, ?_⟩
  refine nx (sl 2 rfl (sl 3 rfl (sl 4 rfl sn))) (el 10 rfl (el 11 rfl (el 12 rfl en))) ?_
  refine tri_seq ?_
  refine tri_fzb 2 10 rfl rfl (by show (4 : Nat) ≠ 0; decide) ?_
  refine tri_fzb 3 11 rfl rfl (by show (4 : Nat) ≠ 0; decide) ?_
  refine tri_sub (sl 2 rfl (sl 3 rfl (sl 4 rfl sn))) (el 12 rfl en) ?_
  refine tri_reg mixed hcx ?_ _ _
  refine lf rfl tyQ ?_
  refine lf rfl tyQ ?_
  refine mf rfl ?_
  refine ca rfl (h := rat_twoG hb hd hfn (by intro a w; kernel_rfl) rfl (by omega) (by omega)) (hn := ?_)
  refine ex rfl rfl ?_
  refine ex rfl rfl ?_
  refine st rfl rfl rfl tyQ rfl ?_
  refine asg rfl ?_
  refine ⟨by kernel_rfl, ?_⟩
  refine nx (sl 4 rfl (sl 5 rfl sn)) (el 12 rfl en) ?_
  refine tri_ret ?_
  repeat (first | refine pn_thenr ?_ | refine pn_blkr ?_)
  exact ret2 hcx rfl (rv_cell (c' := cx) (n := 0) rfl rfl tyQ rfl) (rv_tmp rfl) (.refl _) en

theorem rat_DivG {a b c d : Int} {k l : Nat} (hb : 0 < b) (hd : 0 < d) (hk : k ≤ 17179869184) (hl : l ≤ 17179869184) (hc : c ≠ 0) : Fn Tryz.prog 33 [T.Qi a b k, T.Qi c d l] [] [] [] (T.tup [T.Q ((a : Rat) / (b : Rat) / ((c : Rat) / (d : Rat))) (2 * (k + l)), T.c (.int .i64 0)]) := by
  refine fn_of Tryz.func33 rfl (by show 2 ≤ 31; decide) fun cx hcx => ?_
  refine tri_sub (sl 0 rfl (sl 1 rfl sn)) en ?_
  have hb0 : b ≠ 0 := by omega
  have hd0 : d ≠ 0 := by omega
  have hbd0 : b * d ≠ 0 := Int.mul_ne_zero hb0 hd0
  have hbc0 : b * c ≠ 0 := Int.mul_ne_zero hb0 hc
  have hsg := sgn_ne hc
  refine tri_seq ?_
  refine tri_reg mixed hcx ?_ _ _
  refine bxs 10 rfl ?_
  refine bxs 11 rfl ?_
  refine nw 12 zeQ ?_
  refine asg rfl ?_
  refine ⟨by kernel_rfl, ?_⟩
  refine nx (sl 2 rfl (sl 3 rfl (sl 4 rfl sn))) (el 10 rfl (el 11 rfl (el 12 rfl en))) ?_
  refine tri_seq ?_
  refine tri_seq ?_
  refine tri_reg mixed hcx ?_ _ _
  refine ld rfl rfl tyQ rfl ?_
  refine ld rfl rfl tyQ rfl ?_
  refine bs (c := cQi (k + l)) (xs := [(a, b), (c, d)]) slQs rfl ⟨qi_mono (by omega), qi_mono (by omega), trivial⟩ ?_
  refine ca rfl (h := rat_validG (by omega) (by simp) (two_pos hb hd)) (hn := ?_)
  refine asg rfl ?_
  refine ⟨by kernel_rfl, ?_⟩
  refine nx (sl 2 rfl (sl 3 rfl (sl 4 rfl (sl 6 rfl sn)))) (el 10 rfl (el 11 rfl (el 12 rfl en))) ?_
  refine tri_seq ?_
  refine tri_reg mixed hcx ?_ _ _
  refine mv rfl ?_
  refine cne rfl rfl (decide_eq_false (by omega)) ?_
  refine ⟨by kernel_rfl, ?_⟩
  refine nx (sl 2 rfl (sl 3 rfl (sl 4 rfl (sl 6 rfl (sl 12 rfl sn))))) (el 10 rfl (el 11 rfl (el 12 rfl en))) ?_
  refine tri_false rfl rfl ?_
  refine tri_skip ?_
  refine nx (sl 2 rfl (sl 3 rfl (sl 4 rfl sn))) (el 10 rfl (el 11 rfl (el 12 rfl en))) ?_
  refine tri_seq ?_
  refine tri_seq ?_
  refine tri_reg mixed hcx ?_ _ _
  refine fa rfl fNum 0 ?_
  refine ld rfl rfl tyZ rfl ?_
  refine ca rfl (h := zi_Sign (by omega)) (hn := ?_)
  refine ceq rfl rfl (decide_eq_false (by omega)) ?_
  refine ⟨by kernel_rfl, ?_⟩
  refine nx (sl 2 rfl (sl 3 rfl (sl 4 rfl (sl 18 rfl sn)))) (el 10 rfl (el 11 rfl (el 12 rfl en))) ?_
  refine tri_false rfl rfl ?_
  refine tri_skip ?_
  refine nx (sl 2 rfl (sl 3 rfl (sl 4 rfl sn))) (el 10 rfl (el 11 rfl (el 12 rfl en))) ?_
  refine tri_seq ?_
  refine tri_reg mixed hcx ?_ _ _
  refine fa rfl fNum 0 ?_
  refine ld rfl rfl tyZ rfl ?_
  refine fa rfl fDen 2 ?_
  refine ld rfl rfl tyZ rfl ?_
  refine ca rfl (h := zi_Mul (by omega) (by omega)) (hn := ?_)
  refine fa rfl fDen 2 ?_
  refine ld rfl rfl tyZ rfl ?_
  refine fa rfl fNum 0 ?_
  refine ld rfl rfl tyZ rfl ?_
  refine ca rfl (h := zi_Mul (by omega) (by omega)) (hn := ?_)
  refine ca rfl (h := rat_mk (by assumption) (by omega) (by omega)) (hn := ?_)
  refine st rfl rfl rfl tyQ rfl ?_
  refine asg rfl ?_
  refine ⟨by kernel_rfl, ?_⟩
  refine nx (sl 4 rfl (sl 5 rfl sn)) (el 10 rfl (el 11 rfl (el 12 rfl en))) ?_
  refine tri_ret ?_
  repeat (first | refine pn_thenr ?_ | refine pn_blkr ?_)
  exact ret2 hcx rfl (rv_cell (c' := cx) (n := 0) rfl rfl tyQ rfl) (rv_tmp rfl) (tup_le ⟨q_eq (rat_divG hb0 hc hd0) (by omega), .refl _, trivial⟩) en
end Go.Proofs.YtmfgnbchehnpjaaGreat.V
/- A point along a row. -/
set_option linter.unusedVariables false
set_option linter.unusedSimpArgs false
set_option maxRecDepth 100000
namespace Go.Proofs.YtmfgnbchehnpjaaGreat.V
open Go.RowKit Mt Nml
/-- The product of a point and a row, term by term. -/
def alq (ts : List (Int × Int)) (r : List Int) : Nat → Rat
  | 0 => 0
  | n + 1 => alq ts r n + ((ts.getD n (0, 0)).1 : Rat) / ((ts.getD n (0, 0)).2 : Rat) * ((r.getD n 0 : Int) : Rat)
theorem alq_step (ts : List (Int × Int)) (r : List Int) (i : Nat) : (((alq ts r i).num : Int) : Rat) / (((alq ts r i).den : Int) : Rat) + (((((ts.getD i (0, 0)).1 : Rat) / ((ts.getD i (0, 0)).2 : Rat) * ((((r.getD i 0 : Int) : Rat).num : Rat) / ((((r.getD i 0 : Int) : Rat).den : Int) : Rat))).num : Int) : Rat) / (((((ts.getD i (0, 0)).1 : Rat) / ((ts.getD i (0, 0)).2 : Rat) * ((((r.getD i 0 : Int) : Rat).num : Rat) / ((((r.getD i 0 : Int) : Rat).den : Int) : Rat))).den : Int) : Rat) = alq ts r (i + 1) := by
  rw [rat_nd, rat_nd, rat_nd]; rfl
theorem den_p' (q : Rat) : 0 < ((q.den : Int)) := Int.natCast_pos.2 q.den_pos

theorem g_along {ts : List (Int × Int)} {r : List Int} {k S : Nat} (hl : r.length ≤ 1048576) (hrt : r.length ≤ ts.length) (hp : ∀ i, i < ts.length → 0 < (ts.getD i (0, 0)).2) (hk : k ≤ 1073741824) (hS : S ≤ 1073741824) (hQ : ∀ i, i ≤ r.length → QB (alq ts r i) S) : Fn Tryz.prog 28 [T.l (cQi k) ts, T.l (cZi k) r] [] [] [] (T.Q (alq ts r r.length) S) := by
  refine fn_of Tryz.func28 rfl (by show 2 ≤ 37; decide) fun cx hcx => ?_
  refine tri_sub (sl 0 rfl (sl 1 rfl sn)) en ?_
  refine tri_seq ?_
  refine tri_reg mixed hcx ?_ _ _
  refine nw 10 zeQ ?_
  refine ⟨by kernel_rfl, ?_⟩
  refine nx (sl 0 rfl (sl 1 rfl (sl 4 rfl sn))) (el 10 rfl en) ?_
  refine tri_seq ?_
  refine tri_reg mixed hcx ?_ _ _
  refine ca rfl (h := zi_Of (by omega) (by omega)) (hn := ?_)
  refine ca rfl (h := rat_Of (by omega)) (hn := ?_)
  refine nw 112 zeQ ?_
  refine st rfl rfl rfl tyQ rfl ?_
  refine ⟨by kernel_rfl, ?_⟩
  refine nx (sl 0 rfl (sl 1 rfl (sl 4 rfl (sl 5 rfl sn)))) (el 10 rfl (el 112 rfl en)) ?_
  refine tri_seq ?_
  refine tri_seq ?_
  refine tri_reg mixed hcx ?_ _ _
  refine mv rfl ?_
  refine ln slZs rfl ?_
  refine mv rfl ?_
  refine ⟨by kernel_rfl, ?_⟩
  refine nx (sl 0 rfl (sl 1 rfl (sl 4 rfl (sl 5 rfl (sl 12 rfl (sl 13 rfl sn)))))) (el 10 rfl (el 112 rfl en)) ?_
  refine tri_block ?_
  refine tri_loop (ι := Nat) (fun i => [(0, T.l (cQi k) ts), (1, T.l (cZi k) r), (4, T.p 10 0), (5, T.p 112 0), (12, T.c (.int .i64 (r.length : Int))), (13, T.c (.int .i64 (i : Int)))]) (fun i => [(10, some (Ent.box 28 [T.c (.bool false), T.c (.slice none 0 0), T.c (.bool false), T.c (.slice none 0 0)])), (112, some (Ent.box 28 [T.Q (alq ts r i) (S)]))]) (fun i => r.length - i) (fun i => (i ≤ r.length)) 0 (Nat.zero_le _) (sl 0 rfl (sl 1 rfl (sl 4 rfl (sl 5 rfl (sl 12 rfl (sl 13 rfl sn)))))) (el 10 rfl (ew 112 rfl (box_pack1 (q_qb (by rfl) (hQ 0 (Nat.zero_le _)))) en)) ?_
  rintro i hi
  refine tri_sub (sl 0 rfl (sl 1 rfl (sl 4 rfl (sl 5 rfl (sl 12 rfl (sl 13 rfl sn)))))) (el 10 rfl (el 112 rfl en)) ?_
  refine tri_seq ?_
  refine tri_reg mixed hcx ?_ _ _
  refine clt rfl rfl rfl ?_
  refine ⟨by kernel_rfl, ?_⟩
  refine nx (sl 0 rfl (sl 1 rfl (sl 4 rfl (sl 5 rfl (sl 12 rfl (sl 13 rfl (sl 14 rfl sn))))))) (el 10 rfl (el 112 rfl en)) ?_
  refine tri_seq ?_
  refine tri_if rfl (fun hc => ?_) (fun hc => ?_)
  · refine tri_skip ?_
    refine nx (sl 0 rfl (sl 1 rfl (sl 4 rfl (sl 5 rfl (sl 12 rfl (sl 13 rfl sn)))))) (el 10 rfl (el 112 rfl en)) ?_
    refine tri_seq ?_
    refine tri_block ?_
    refine tri_seq ?_
    refine tri_reg mixed hcx ?_ _ _
    refine mv rfl ?_
    refine asg rfl ?_
    refine ⟨by kernel_rfl, ?_⟩
    refine nx (sl 0 rfl (sl 1 rfl (sl 4 rfl (sl 5 rfl (sl 6 rfl (sl 12 rfl (sl 13 rfl sn))))))) (el 10 rfl (el 112 rfl en)) ?_
    refine tri_seq ?_
    have hpi := hp i (by omega)
    refine tri_reg mixed hcx ?_ _ _
    refine mv rfl ?_
    refine mv rfl ?_
    refine ix rfl rfl slQs ⟨rfl, by omega⟩ ?_
    refine lf rfl tyQ ?_
    refine mv rfl ?_
    refine mv rfl ?_
    refine ix rfl rfl slZs ⟨rfl, by omega⟩ ?_
    refine lf rfl tyZ ?_
    refine ca rfl (h := rat_Of (by omega)) (hn := ?_)
    refine ca rfl (h := rat_MulG hpi (den_p' _) (by omega) (by omega)) (hn := ?_)
    refine mv rfl ?_
    refine ex rfl rfl ?_
    refine ex rfl rfl ?_
    refine nw 523 zeQ ?_
    refine st rfl rfl rfl tyQ rfl ?_
    refine asg rfl ?_
    refine ⟨by kernel_rfl, ?_⟩
    refine nx (sl 0 rfl (sl 1 rfl (sl 4 rfl (sl 5 rfl (sl 7 rfl (sl 12 rfl (sl 13 rfl sn))))))) (el 10 rfl (el 112 rfl (el 523 rfl en))) ?_
    refine tri_reg mixed hcx ?_ _ _
    refine ld rfl rfl tyQ rfl ?_
    refine ld rfl rfl tyQ rfl ?_
    refine ca rfl (h := rat_AddG (den_p' _) (den_p' _) (by omega) (by omega)) (hn := ?_)
    refine mv rfl ?_
    refine ex rfl rfl ?_
    refine ex rfl rfl ?_
    refine st rfl rfl rfl tyQ rfl ?_
    refine ⟨by kernel_rfl, ?_⟩
    refine pn_blk ?_
    refine nx (sl 0 rfl (sl 1 rfl (sl 4 rfl (sl 5 rfl (sl 12 rfl (sl 13 rfl sn)))))) (el 10 rfl (el 112 rfl (el 523 rfl en))) ?_
    refine tri_reg mixed hcx ?_ _ _
    refine ad (((i + 1 : Nat) : Int)) rfl rfl rfl (by omega) ?_
    refine mv rfl ?_
    refine ⟨by kernel_rfl, ?_⟩
    exact pn_back (i + 1) (by first | omega | (dsimp only; omega)) (by omega) (sl 0 rfl (sl 1 rfl (sl 4 rfl (sl 5 rfl (sl 12 rfl (sl 13 rfl sn)))))) (el 10 rfl (ew 112 rfl (box_pack1 (q_qb (alq_step ts r i) (hQ (i + 1) (by omega)))) en))
  · refine tri_exit ?_
    repeat (first | refine pn_then ?_ | refine pn_oth (by decide) ?_)
    refine pn_ex ?_
    obtain rfl : i = r.length := by omega
    refine nx (sl 4 rfl (sl 5 rfl sn)) (el 10 rfl (el 112 rfl en)) ?_
    refine tri_seq ?_
    refine tri_reg mixed hcx ?_ _ _
    refine ld rfl rfl tyQ rfl ?_
    refine st rfl rfl rfl tyQ rfl ?_
    refine ⟨by kernel_rfl, ?_⟩
    refine nx (sl 4 rfl sn) (el 10 rfl (el 112 rfl en)) ?_
    refine tri_ret ?_
    repeat (first | refine pn_thenr ?_ | refine pn_blkr ?_)
    exact ret1 hcx rfl (rv_cell (c' := cx) (n := 0) rfl rfl tyQ rfl) (.refl _) en
end Go.Proofs.YtmfgnbchehnpjaaGreat.V
/- Fractions by what they are worth. -/
set_option linter.unusedVariables false
set_option linter.unusedSimpArgs false
set_option maxRecDepth 100000
namespace Go.Proofs.YtmfgnbchehnpjaaGreat.V
open Go.RowKit Mt Nml
/-- A fraction by what it is worth, however told. -/
def T.V (q : Rat) (k : Nat) : T := T.ex 4 true (fun p : Int × Int => 0 < p.2 ∧ (p.1 : Rat) / (p.2 : Rat) = q ∧ zl p.1 ≤ k ∧ zl p.2 ≤ k) (fun p => T.Qi p.1 p.2 k) (fun _ => ⟨rfl, rfl, rfl⟩)
theorem zi_zl {z : Int} {k : Nat} {β : Env} {u : World} {v : Value} (h : (T.Zi z k).rep β u v) : zl z ≤ k := by
  obtain ⟨i, ⟨k1, k2, k3⟩, _⟩ := h
  obtain ⟨M, hM⟩ := Int.eq_ofNat_of_zero_le (val_nonneg k1)
  rw [k2, hM]
  exact z_bd (s := i.1) k1 hM k3
theorem qi_v {a b : Int} {q : Rat} {k k' : Nat} (hb : 0 < b) (e : (a : Rat) / (b : Rat) = q) (hk : k ≤ k') : (T.Qi a b k).le (T.V q k') := fun β u v h => by
  have h2 := h
  obtain ⟨cs, e1, v1, r1, z1, h1, e2, v2, r2, z2, h3, _⟩ := h
  exact ⟨(a, b), ⟨hb, e, Nat.le_trans (zi_zl h1) hk, Nat.le_trans (zi_zl h3) hk⟩, qi_mono hk _ _ _ h2⟩
theorem q_v (q : Rat) {k k' : Nat} (hk : k ≤ k') : (T.Q q k).le (T.V q k') := (q_qi q hk).trans (qi_v (den_p' q) (rat_nd q) (Nat.le_refl _))
theorem q_v' (q : Rat) (k : Nat) : (T.Q q k).le (T.V q k) := q_v q (Nat.le_refl _)
theorem q_vq {q q' : Rat} {k k' : Nat} (e : q = q') (h : QB q' k') : (T.Q q k).le (T.V q' k') := (q_qb e h).trans (q_v' _ _)
theorem qi_v' {a b : Int} {k : Nat} (hb : 0 < b) : (T.Qi a b k).le (T.V ((a : Rat) / (b : Rat)) k) := qi_v hb rfl (Nat.le_refl _)
theorem cqi_v {p : Int × Int} {k : Nat} (hb : 0 < p.2) : ((cQi k).X p).le (T.V ((p.1 : Rat) / (p.2 : Rat)) k) := qi_v hb rfl (Nat.le_refl _)
theorem fn_v {P : Program} {f : FuncId} {q : Rat} {k : Nat} (As : List T) {Bs : List T} {Ei Eo : List (Nat × Ent)} {N : List Nat} {R : T} (h : ∀ p : Int × Int, 0 < p.2 → (p.1 : Rat) / (p.2 : Rat) = q → zl p.1 ≤ k → zl p.2 ≤ k → Fn P f (As ++ T.Qi p.1 p.2 k :: Bs) Ei Eo N R) : Fn P f (As ++ T.V q k :: Bs) Ei Eo N R := fn_ex fun p ⟨h1, h2, h3, h4⟩ => h p h1 h2 h3 h4
theorem QB.addv {a b c d : Int} {x y : Rat} {k l : Nat} (hb : 0 < b) (hd : 0 < d) (e : (a : Rat) / (b : Rat) = x) (e2 : (c : Rat) / (d : Rat) = y) (h1 : zl a ≤ k) (h2 : zl b ≤ k) (h3 : zl c ≤ l) (h4 : zl d ≤ l) : QB (x + y) (k + l + 1) := by
  rw [← e, ← e2, ← rat_addG (by omega) (by omega)]
  have h5 := zl_mul h1 h4
  have h6 := zl_mul h3 h2
  have := qb_div (zl_add_max h5 (by rw [Nat.add_comm]; exact h6)) (zl_mul h2 h4) (Int.mul_ne_zero (by omega) (by omega))
  exact QB.mono this (by omega)
theorem QB.subv {a b c d : Int} {x y : Rat} {k l : Nat} (hb : 0 < b) (hd : 0 < d) (e : (a : Rat) / (b : Rat) = x) (e2 : (c : Rat) / (d : Rat) = y) (h1 : zl a ≤ k) (h2 : zl b ≤ k) (h3 : zl c ≤ l) (h4 : zl d ≤ l) : QB (x - y) (k + l + 1) := by
  rw [← e, ← e2, ← rat_subG (by omega) (by omega)]
  have h5 := zl_mul h1 h4
  have h6 := zl_mul h3 h2
  have := qb_div (zl_sub_max h5 (by rw [Nat.add_comm]; exact h6)) (zl_mul h2 h4) (Int.mul_ne_zero (by omega) (by omega))
  exact QB.mono this (by omega)
theorem QB.mulv {a b c d : Int} {x y : Rat} {k l : Nat} (hb : 0 < b) (hd : 0 < d) (e : (a : Rat) / (b : Rat) = x) (e2 : (c : Rat) / (d : Rat) = y) (h1 : zl a ≤ k) (h2 : zl b ≤ k) (h3 : zl c ≤ l) (h4 : zl d ≤ l) : QB (x * y) (k + l) := by
  rw [← e, ← e2, ← rat_mulG]
  have := qb_div (zl_mul h1 h3) (zl_mul h2 h4) (Int.mul_ne_zero (show b ≠ 0 by omega) (show d ≠ 0 by omega))
  exact QB.mono this (by omega)
theorem QB.divv {a b c d : Int} {x y : Rat} {k l : Nat} (hb : 0 < b) (hd : 0 < d) (hc : c ≠ 0) (e : (a : Rat) / (b : Rat) = x) (e2 : (c : Rat) / (d : Rat) = y) (h1 : zl a ≤ k) (h2 : zl b ≤ k) (h3 : zl c ≤ l) (h4 : zl d ≤ l) : QB (x / y) (k + l) := by
  rw [← e, ← e2, ← rat_divG (by omega) hc (by omega)]
  have := qb_div (zl_mul h1 h4) (zl_mul h2 h3) (Int.mul_ne_zero (show b ≠ 0 by omega) hc)
  exact QB.mono this (by omega)
theorem v_num {c d : Int} {y : Rat} (hy : y ≠ 0) (e : (c : Rat) / (d : Rat) = y) : c ≠ 0 := fun h => hy (by
  subst h
  rw [← e, Rat.div_def]
  exact Rat.zero_mul _)

theorem rv_Add {x y : Rat} {k l : Nat} (hk : k ≤ 17179869184) (hl : l ≤ 17179869184) : Fn Tryz.prog 36 [T.V x k, T.V y l] [] [] [] (T.tup [T.Q (x + y) (k + l + 1), T.c (.int .i64 0)]) := fn_v [] fun p p1 p2 p3 p4 => fn_v [T.Qi p.1 p.2 k] (Bs := []) fun q q1 q2 q3 q4 => fn_out (rat_AddG p1 q1 hk hl) (tup_le ⟨q_qb (by rw [p2, q2]) (QB.addv p1 q1 p2 q2 p3 p4 q3 q4), .refl _, trivial⟩)

theorem rv_Sub {x y : Rat} {k l : Nat} (hk : k ≤ 17179869184) (hl : l ≤ 17179869184) : Fn Tryz.prog 32 [T.V x k, T.V y l] [] [] [] (T.tup [T.Q (x - y) (k + l + 1), T.c (.int .i64 0)]) := fn_v [] fun p p1 p2 p3 p4 => fn_v [T.Qi p.1 p.2 k] (Bs := []) fun q q1 q2 q3 q4 => fn_out (rat_SubG p1 q1 hk hl) (tup_le ⟨q_qb (by rw [p2, q2]) (QB.subv p1 q1 p2 q2 p3 p4 q3 q4), .refl _, trivial⟩)

theorem rv_Mul {x y : Rat} {k l : Nat} (hk : k ≤ 17179869184) (hl : l ≤ 17179869184) : Fn Tryz.prog 31 [T.V x k, T.V y l] [] [] [] (T.tup [T.Q (x * y) (k + l), T.c (.int .i64 0)]) := fn_v [] fun p p1 p2 p3 p4 => fn_v [T.Qi p.1 p.2 k] (Bs := []) fun q q1 q2 q3 q4 => fn_out (rat_MulG p1 q1 hk hl) (tup_le ⟨q_qb (by rw [p2, q2]) (QB.mulv p1 q1 p2 q2 p3 p4 q3 q4), .refl _, trivial⟩)

theorem rv_Div {x y : Rat} {k l : Nat} (hk : k ≤ 17179869184) (hl : l ≤ 17179869184) (hy : y ≠ 0) : Fn Tryz.prog 33 [T.V x k, T.V y l] [] [] [] (T.tup [T.Q (x / y) (k + l), T.c (.int .i64 0)]) := fn_v [] fun p p1 p2 p3 p4 => fn_v [T.Qi p.1 p.2 k] (Bs := []) fun q q1 q2 q3 q4 => fn_out (rat_DivG p1 q1 hk hl (v_num hy q2)) (tup_le ⟨q_qb (by rw [p2, q2]) (QB.divv p1 q1 (v_num hy q2) p2 q2 p3 p4 q3 q4), .refl _, trivial⟩)

theorem r3v_Add {x y : Rat} {k l : Nat} (hk : k ≤ 17179869184) (hl : l ≤ 17179869184) : Fn Tryz.prog 17 [T.V x k, T.V y l] [] [] [] (T.Q (x + y) (k + l + 1)) := fn_v [] fun p p1 p2 p3 p4 => fn_v [T.Qi p.1 p.2 k] (Bs := []) fun q q1 q2 q3 q4 => fn_out (r03_AddG (by omega) (by omega) (by omega) (by omega)) (q_qb (by rw [p2, q2]) (QB.addv p1 q1 p2 q2 p3 p4 q3 q4))

theorem r3v_Sub {x y : Rat} {k l : Nat} (hk : k ≤ 17179869184) (hl : l ≤ 17179869184) : Fn Tryz.prog 14 [T.V x k, T.V y l] [] [] [] (T.Q (x - y) (k + l + 1)) := fn_v [] fun p p1 p2 p3 p4 => fn_v [T.Qi p.1 p.2 k] (Bs := []) fun q q1 q2 q3 q4 => fn_out (r03_SubG p1 q1 (by omega) (by omega)) (q_qb (by rw [p2, q2]) (QB.subv p1 q1 p2 q2 p3 p4 q3 q4))

theorem r03_MulG {a b c d : Int} {k l : Nat} (hb0 : b ≠ 0) (hd0 : d ≠ 0) (hk : k ≤ 68719476736) (hl : l ≤ 68719476736) : Fn Tryz.prog 15 [T.Qi a b k, T.Qi c d l] [] [] [] (T.Q ((a : Rat) / (b : Rat) * ((c : Rat) / (d : Rat))) (k + l + (k + l))) := by
  refine fn_of Tryz.func15 rfl (by show 2 ≤ 16; decide) fun cx hcx => ?_
  refine tri_sub (sl 0 rfl (sl 1 rfl sn)) en ?_
  have hbd0 : b * d ≠ 0 := Int.mul_ne_zero hb0 hd0
  refine tri_seq ?_
  refine tri_reg mixed hcx ?_ _ _
  refine bxs 10 rfl ?_
  refine bxs 11 rfl ?_
  refine nw 12 zeQ ?_
  refine ⟨by kernel_rfl, ?_⟩
  refine nx (sl 2 rfl (sl 3 rfl (sl 4 rfl sn))) (el 10 rfl (el 11 rfl (el 12 rfl en))) ?_
  refine tri_seq ?_
  refine tri_reg mixed hcx ?_ _ _
  refine fa rfl fNum 0 ?_
  refine ld rfl rfl tyZ rfl ?_
  refine fa rfl fNum 0 ?_
  refine ld rfl rfl tyZ rfl ?_
  refine ca rfl (h := r02_Mul (by omega) (by omega)) (hn := ?_)
  refine fa rfl fDen 2 ?_
  refine ld rfl rfl tyZ rfl ?_
  refine fa rfl fDen 2 ?_
  refine ld rfl rfl tyZ rfl ?_
  refine ca rfl (h := r02_Mul (by omega) (by omega)) (hn := ?_)
  refine ca rfl (h := r03_Make (by first | assumption | omega) (by omega) (by omega)) (hn := ?_)
  refine st rfl rfl rfl tyQ rfl ?_
  refine ⟨by kernel_rfl, ?_⟩
  refine nx (sl 4 rfl sn) (el 10 rfl (el 11 rfl (el 12 rfl en))) ?_
  refine tri_ret ?_
  repeat (first | refine pn_thenr ?_ | refine pn_blkr ?_)
  exact ret1 hcx rfl (rv_cell (c' := cx) (n := 0) rfl rfl tyQ rfl) (q_eq (rat_mulG _ _ _ _) (by omega)) en

theorem r3v_Mul {x y : Rat} {k l : Nat} (hk : k ≤ 17179869184) (hl : l ≤ 17179869184) : Fn Tryz.prog 15 [T.V x k, T.V y l] [] [] [] (T.Q (x * y) (k + l)) := fn_v [] fun p p1 p2 p3 p4 => fn_v [T.Qi p.1 p.2 k] (Bs := []) fun q q1 q2 q3 q4 => fn_out (r03_MulG (by omega) (by omega) (by omega) (by omega)) (q_qb (by rw [p2, q2]) (QB.mulv p1 q1 p2 q2 p3 p4 q3 q4))

section
variable {P : Program} {ops : Array Oper} {fin : List OpS → List (Nat × T) → List (Nat × Option Ent) → Prop} {r : List Oper} {H : List OpS} {g : List (Nat × T)} {E : List (Nat × Option Ent)} {o : Oper}
variable {t : Option Nat} {ty : TypeId} {ps : String} {af : Array Edge} {gd : Option (Nat × Bool)} {x y : Operand} {X Y : T} {e off m : Nat} {b : Bool} {l l' : List T} {et : TypeId}
variable {α : Type} {c : Cod α} {xs ys : List α}
/-- A call; fractions are told by what they are worth. -/
theorem cb {f : FuncId} {zs : Array Operand} {tys : Array TypeId} {As Bs : List T} (hA : envs g zs.toList = some As)
    (hl : LeL As Bs := by repeat (first | exact trivial | refine ⟨?_, ?_⟩ | exact q_v' _ _ | exact T.le.refl _ | exact qi_v' (by assumption) | exact cqi_v (by assumption) | exact IsZ.le | exact IsL2.le | exact IsL.le | exact q_le _ _ | assumption))
    (h : Fn P f Bs [] [] [] X) (hn : J P ops fin r (OpS.p X :: H) (putg t X g) E) (hen : Enters P f := by intro a w; kernel_rfl)
    (hg : GuardIs ops g ⟨t, .call ⟨.value (.func f), zs, tys⟩, ty, ps, af, gd⟩ true := by exact gd0) : J P ops fin (⟨t, .call ⟨.value (.func f), zs, tys⟩, ty, ps, af, gd⟩ :: r) H g E :=
  cl hA (fn_le h hl) hn hen hg
/-- A load out of a row, told otherwise. -/
theorem lox {ty' τ : TypeId} {i : Nat} (i' : Nat) (hX : envl g x = some (T.q e off)) (hE : lkE E e = some (Ent.row c τ xs)) (hT : Ty P ty' b m) (hi : off = i * c.sz ∧ i = i' ∧ i < xs.length) (hle : (c.X (xs.getD i' c.dflt)).le X) (hn : J P ops fin r (⟨[e], [], [], [], X⟩ :: H) (putg t X g) E) (hm : c.sz = m ∧ (c.X (xs.getD i' c.dflt)).ag = b := by exact ⟨rfl, rfl⟩) (h1 : (b || m == 1) = true := by rfl) (hg : GuardIs ops g ⟨t, .load ty' x, ty, ps, af, gd⟩ true := by exact gd0) : J P ops fin (⟨t, .load ty' x, ty, ps, af, gd⟩ :: r) H g E :=
  by
  obtain ⟨rfl, rfl, hi⟩ := hi
  exact j_use hE hg (fun ρ β u w F hs he hH => by
    obtain ⟨q, n, k, h2, h3⟩ := he x (by simp [Op.operands]) _ hX
    obtain ⟨zs, k1, k2, k3⟩ := hH.hold e _ lk1_same
    have hx : xs[i]? = some (xs.getD i c.dflt) := by rw [List.getD_eq_getElem?_getD, List.getElem?_eq_getElem hi]; rfl
    obtain ⟨p, v, s, e1, hp, hv, _⟩ := k2.at hx
    have hnn : n = xs.length := by
      rcases k1.2 with ⟨ev, hn⟩ | ⟨q', cap, cur, ev, _⟩
      · omega
      · rw [h2] at ev; cases ev; rfl
    subst hnn
    rw [h2] at k1
    obtain ⟨hf, hva⟩ := (c.X (xs.getD i c.dflt)).shp hv (by rw [c.sz0]; exact c.pos)
    have hlen : v.cells.toList.length = m := by rw [hf.1, c.sz0]; exact hm.1
    have := run_loadAt (P := P) (w := w) (ad := ⟨q, i * c.sz, none⟩) (vs := v.cells.toList) (by rw [hlen]; exact hT) (row_cells k1 e1 hp) (by rw [hlen]; exact ty_one hT h1)
    rw [hm.2] at hva
    rw [← hva] at this
    unfold Res
    simp only [execOp, h3, Instr.loadAt, Instr.sureAddr, Sem.run_bind, Result.andThen_ok, Sem.run_pure, this]
    exact after_pure hs (hle _ _ _ (c.any hv))) hn
/-- A load through a pointer, told otherwise. -/
theorem lfx {ty' : TypeId} (hX : envl g x = some (T.fp Y)) (hT : Ty P ty' b m) (hle : Y.le X) (hn : J P ops fin r (OpS.p X :: H) (putg t X g) E) (hm : Y.sz = m ∧ Y.ag = b := by exact ⟨rfl, rfl⟩) (h1 : (b || m == 1) = true := by rfl) (hg : GuardIs ops g ⟨t, .load ty' x, ty, ps, af, gd⟩ true := by exact gd0) : J P ops fin (⟨t, .load ty' x, ty, ps, af, gd⟩ :: r) H g E :=
  j_val hg (ok_pure fun ρ β u w F hs he hH => by
    obtain ⟨ad, v, h2, h0, h3, h4⟩ := he x (by simp [Op.operands]) _ hX
    obtain ⟨hf, hv⟩ := Y.shp h3 h0
    have hlen : v.cells.toList.length = m := by rw [← hm.1]; exact hf.1
    have := run_loadAt (P := P) (w := w) (ad := ad) (vs := v.cells.toList) (by rw [hlen]; exact hT) (fun j y hy => hs _ _ (h4 j y hy)) (by rw [hlen]; exact ty_one hT h1)
    refine ⟨v, ?_, hle _ _ _ h3⟩
    rw [hm.2] at hv
    rw [← hv] at this
    simp only [execOp, h2, Instr.loadAt, Instr.sureAddr, Sem.run_bind, Result.andThen_ok, Sem.run_pure, this]) hn
end
theorem box_q {et : TypeId} {q q' : Rat} {k k' : Nat} (h : (T.Q q k).le (T.Q q' k')) : (Ent.box et [T.Q q k]).le (Ent.box et [T.Q q' k']) := box_pack1 h
def nd (q : Rat) : Int × Int := (q.num, (q.den : Int))
/-- A pair of numbers, each in its one form. -/
def cQp (k : Nat) : Cod (Int × Int) := ⟨fun q => T.st [T.Z q.1 k, T.Z q.2 k], 4, (0, 0), fun _ => rfl, fun _ => rfl, by decide⟩
theorem q_p {q q' : Rat} {k k' : Nat} (e : q = q') (h : QB q' k') : (T.Q q k).le ((cQp k').X (nd q')) := q_qb e h
theorem p_q {p : Int × Int} {q : Rat} {k : Nat} (e : p = nd q) : ((cQp k).X p).le (T.Q q k) := by subst e; exact .refl _
theorem zrQp (k : Nat) (u : World) : ((cQp k).X (cQp k).dflt).rep B0 u (.agg #[.bool false, .slice none 0 0, .bool false, .slice none 0 0]) := by
  have h : (T.st [T.c (.bool false), T.c (.slice none 0 0)]).le (T.Z 0 k) := zz0.trans (z_mono (Nat.zero_le k))
  have e : ∀ β u, (T.st [T.c (.bool false), T.c (.slice none 0 0)]).rep β u (.agg #[.bool false, .slice none 0 0]) := fun β u => ⟨[.bool false, .slice none 0 0], rfl, cells_c (zs := [.bool false, .slice none 0 0]) rfl⟩
  exact ⟨[.bool false, .slice none 0 0, .bool false, .slice none 0 0], rfl, _, _, by show (2 : Nat) ≠ 0; decide, h _ _ _ (e B0 u), rfl, _, _, by show (2 : Nat) ≠ 0; decide, h _ _ _ (e B0 u), rfl, rfl⟩
end Go.Proofs.YtmfgnbchehnpjaaGreat.V
/- The nearest point's coefficients as plain sums: what stands along each star, and the way back. -/
set_option linter.unusedVariables false
set_option maxRecDepth 100000
namespace Go.Proofs.YtmfgnbchehnpjaaGreat.V
open Go.RowKit Mt Nml
def muq (D : List Int) (L : List (List Int)) (i j : Nat) : Rat := (((L.getD i []).getD j 0 : Int) : Rat) / ((D.getD (j + 1) 0 : Int) : Rat)
def stq (D : List Int) (i : Nat) : Rat := ((D.getD (i + 1) 0 : Int) : Rat) / ((D.getD i 0 : Int) : Rat)
/-- Row i's part along its star, after j of the earlier ones; the list of the first i. -/
def yP (D : List Int) (L : List (List Int)) (a : Nat → Rat) (ys : List Rat) (i : Nat) : Nat → Rat
  | 0 => a i
  | j + 1 => yP D L a ys i j - muq D L i j * stq D j * ys.getD j 0
def yL (D : List Int) (L : List (List Int)) (a : Nat → Rat) : Nat → List Rat
  | 0 => []
  | i + 1 => yL D L a i ++ [yP D L a (yL D L a i) i i / stq D i]
theorem yL_len (D : List Int) (L : List (List Int)) (a : Nat → Rat) : ∀ i, (yL D L a i).length = i
  | 0 => rfl
  | i + 1 => by simp only [yL, List.length_append, yL_len D L a i, List.length_cons, List.length_nil]
theorem yL_at (D : List Int) (L : List (List Int)) (a : Nat → Rat) {j : Nat} : ∀ {i : Nat}, j < i → (yL D L a i).getD j 0 = yP D L a (yL D L a j) j j / stq D j
  | 0, h => by omega
  | i + 1, h => by
    have hl := yL_len D L a i
    by_cases hj : j = i
    · subst hj
      simp only [yL, List.getD_eq_getElem?_getD]
      rw [List.getElem?_append_right (by omega), hl, Nat.sub_self]
      rfl
    · have := yL_at D L a (j := j) (i := i) (by omega)
      simp only [yL, List.getD_eq_getElem?_getD] at this ⊢
      rw [List.getElem?_append_left (by omega)]
      exact this
/-- A row that is filled from its front: one place more. -/
theorem fill_set {α : Type} (l : List α) (n : Nat) (z v : α) (h : l.length < n) : (l ++ List.replicate (n - l.length) z).set l.length v = (l ++ [v]) ++ List.replicate (n - (l.length + 1)) z := by
  rw [List.set_append_right _ _ (Nat.le_refl _), Nat.sub_self, show n - l.length = (n - (l.length + 1)) + 1 by omega, List.replicate_succ, List.set_cons_zero, List.append_assoc]
  rfl
/-- The coefficient of row i, after m of the later ones; the last k coefficients. -/
def cP (D : List Int) (L : List (List Int)) (y cs : List Rat) (i : Nat) : Nat → Rat
  | 0 => y.getD i 0
  | m + 1 => cP D L y cs i m - muq D L (i + 1 + m) i * cs.getD m 0
def cB (D : List Int) (L : List (List Int)) (y : List Rat) (n : Nat) : Nat → List Rat
  | 0 => []
  | k + 1 => cP D L y (cB D L y n k) (n - (k + 1)) k :: cB D L y n k
theorem cB_len (D : List Int) (L : List (List Int)) (y : List Rat) (n : Nat) : ∀ k, (cB D L y n k).length = k
  | 0 => rfl
  | k + 1 => by simp only [cB, List.length_cons, cB_len D L y n k]
/-- What is left of a number of the point, after i rows. -/
def lq (b : List (List Int)) (c : List Rat) (d : Rat) (k : Nat) : Nat → Rat
  | 0 => d
  | i + 1 => lq b c d k i - c.getD i 0 * (((b.getD i []).getD k 0 : Int) : Rat)
def hq (b : List (List Int)) (c : List Rat) (ts : List (Int × Int)) (n : Nat) : Nat → Rat
  | 0 => 0
  | k + 1 => hq b c ts n k + lq b c (((ts.getD k (0, 0)).1 : Rat) / ((ts.getD k (0, 0)).2 : Rat)) k n * lq b c (((ts.getD k (0, 0)).1 : Rat) / ((ts.getD k (0, 0)).2 : Rat)) k n
end Go.Proofs.YtmfgnbchehnpjaaGreat.V
/- Sizes by a common denominator. -/
set_option linter.unusedVariables false
set_option maxRecDepth 100000
namespace Go.Proofs.YtmfgnbchehnpjaaGreat.V
open Go.RowKit Mt Nml
/-- Times d it is a whole number of at most A limbs. -/
def QC (q : Rat) (d : Int) (A : Nat) : Prop := ∃ n : Int, q * (d : Rat) = (n : Rat) ∧ zl n ≤ A
theorem QC.qb {q : Rat} {d : Int} {A : Nat} (h : QC q d A) (hd : 0 < d) (hz : zl d ≤ A) : QB q A := by
  obtain ⟨n, h1, h2⟩ := h
  have hne : (d : Rat) ≠ 0 := rat_ne (by omega)
  have e : q = (n : Rat) / (d : Rat) := by
    rw [← h1]
    generalize (d : Rat) = y at hne
    grind
  obtain ⟨k1, k2⟩ := rat_made (x := n) hd
  rw [← e] at k1 k2
  exact ⟨by rw [k1]; exact zl_div _ h2, by rw [k2]; exact zl_div _ hz⟩
theorem QC.mono {q : Rat} {d : Int} {A B : Nat} (h : QC q d A) (hA : A ≤ B) : QC q d B := by
  obtain ⟨n, h1, h2⟩ := h
  exact ⟨n, h1, Nat.le_trans h2 hA⟩
theorem QC.add {q r : Rat} {d : Int} {A B : Nat} (h : QC q d A) (k : QC r d B) : QC (q + r) d (max A B + 1) := by
  obtain ⟨n, h1, h2⟩ := h
  obtain ⟨m, k1, k2⟩ := k
  exact ⟨n + m, by rw [Rat.add_mul, h1, k1, Rat.intCast_add], zl_add_max (Nat.le_trans h2 (Nat.le_max_left _ _)) (Nat.le_trans k2 (Nat.le_max_right _ _))⟩
theorem QC.neg {q : Rat} {d : Int} {A : Nat} (h : QC q d A) : QC (-q) d A := by
  obtain ⟨n, h1, h2⟩ := h
  exact ⟨-n, by rw [Rat.neg_mul, h1, Rat.intCast_neg], by unfold zl at h2 ⊢; rw [Int.natAbs_neg]; exact h2⟩
theorem QC.sub {q r : Rat} {d : Int} {A B : Nat} (h : QC q d A) (k : QC r d B) : QC (q - r) d (max A B + 1) := by
  rw [Rat.sub_eq_add_neg]
  exact h.add k.neg
theorem QC.mul {q r : Rat} {d e : Int} {A B : Nat} (h : QC q d A) (k : QC r e B) : QC (q * r) (d * e) (A + B) := by
  obtain ⟨n, h1, h2⟩ := h
  obtain ⟨m, k1, k2⟩ := k
  refine ⟨n * m, ?_, zl_mul h2 k2⟩
  rw [Rat.intCast_mul, Rat.intCast_mul, ← h1, ← k1]
  generalize (d : Rat) = x
  generalize (e : Rat) = y
  grind
theorem QC.up {q : Rat} {d : Int} {A : Nat} (h : QC q d A) (e : Int) : QC q (d * e) (A + zl e) := by
  obtain ⟨n, h1, h2⟩ := h
  refine ⟨n * e, ?_, zl_mul h2 (Nat.le_refl _)⟩
  rw [Rat.intCast_mul, Rat.intCast_mul, ← h1]
  generalize (d : Rat) = x
  generalize (e : Rat) = y
  grind
theorem QC.int (a : Int) : QC (a : Rat) 1 (zl a) := ⟨a, by rw [show ((1 : Int) : Rat) = 1 from rfl, Rat.mul_one], Nat.le_refl _⟩
end Go.Proofs.YtmfgnbchehnpjaaGreat.V
/- The parts along the stars have a common denominator that grows by steps. -/
set_option linter.unusedVariables false
set_option maxRecDepth 100000
namespace Go.Proofs.YtmfgnbchehnpjaaGreat.V
open Go.RowKit Mt Nml
theorem QC.cast {q : Rat} {d d' : Int} {A : Nat} (h : QC q d A) (e : d = d') : QC q d' A := e ▸ h
theorem y_size {D : List Int} {L : List (List Int)} {a : Nat → Rat} {t dl : Int} {A0 z m n : Nat} (hA : ∀ i, i < n → QC (a i) t A0) (hM : ∀ i j, j < i → i < n → QC (muq D L i j * stq D j) dl m) (hS : ∀ i, i < n → QC ((stq D i)⁻¹) dl m) (hz : ∀ k, zl (dl ^ k) ≤ k * z + 1) :
    ∀ i, i < n → (∀ j, j ≤ i → QC (yP D L a (yL D L a i) i j) (t * dl ^ (2 * i)) (A0 + 2 * i * (z + m + n + 2) + j + 1)) ∧ QC (yP D L a (yL D L a i) i i / stq D i) (t * dl ^ (2 * i + 1)) (A0 + (2 * i + 1) * (z + m + n + 2)) := by
  intro i
  induction i using Nat.strongRecOn with
  | ind i ih =>
    intro hi
    obtain ⟨w, hw⟩ : ∃ w, w = z + m + n + 2 := ⟨_, rfl⟩
    rw [← hw]
    have hzw : ∀ k, k * z ≤ k * w := fun k => Nat.mul_le_mul_left _ (by omega)
    have part : ∀ j, j ≤ i → QC (yP D L a (yL D L a i) i j) (t * dl ^ (2 * i)) (A0 + 2 * i * w + j + 1) := by
      intro j
      induction j with
      | zero =>
        intro _
        refine ((hA i hi).up (dl ^ (2 * i))).mono ?_
        have h1 := hz (2 * i)
        have h2 := hzw (2 * i)
        omega
      | succ j hj =>
        intro hji
        have p := hj (by omega)
        have y := (ih j (by omega) (by omega)).2
        rw [← hw] at y
        have q := ((hM i j (by omega) hi).mul y).up (dl ^ (2 * i - (2 * j + 2)))
        have e5 : dl ^ (2 * j + 1 + 1 + (2 * i - (2 * j + 2))) = dl ^ (2 * j + 1) * dl * dl ^ (2 * i - (2 * j + 2)) := by rw [Int.pow_add, Int.pow_succ]
        rw [show 2 * j + 1 + 1 + (2 * i - (2 * j + 2)) = 2 * i by omega] at e5
        have q' := q.cast (d' := t * dl ^ (2 * i)) (by rw [e5]; ac_rfl)
        have e : yP D L a (yL D L a i) i (j + 1) = yP D L a (yL D L a i) i j - muq D L i j * stq D j * (yP D L a (yL D L a j) j j / stq D j) := by
          show _ - _ * (yL D L a i).getD j 0 = _
          rw [yL_at D L a (by omega)]
        rw [e]
        refine (p.sub q').mono ?_
        have h1 := hz (2 * i - (2 * j + 2))
        have h2 := hzw (2 * i - (2 * j + 2))
        have h3 : (2 * j + 1) * w + (2 * i - (2 * j + 2)) * w + w = 2 * i * w := by rw [← Nat.add_mul, ← Nat.succ_mul]; congr 1; omega
        omega
    refine ⟨part, ?_⟩
    have p := part i (Nat.le_refl _)
    have q := p.mul (hS i hi)
    rw [← Rat.div_def] at q
    refine (q.cast (by rw [Int.pow_succ]; ac_rfl)).mono ?_
    have h3 : (2 * i + 1) * w = 2 * i * w + w := Nat.succ_mul _ _
    omega
end Go.Proofs.YtmfgnbchehnpjaaGreat.V
/- The coefficients have a common denominator that grows by steps. -/
set_option linter.unusedVariables false
set_option maxRecDepth 100000
namespace Go.Proofs.YtmfgnbchehnpjaaGreat.V
open Go.RowKit Mt Nml
theorem cB_at (D : List Int) (L : List (List Int)) (y : List Rat) (n : Nat) : ∀ {k m : Nat}, m < k → (cB D L y n k).getD m 0 = cP D L y (cB D L y n (k - 1 - m)) (n - (k - m)) (k - 1 - m)
  | 0, _, h => by omega
  | k + 1, 0, _ => rfl
  | k + 1, m + 1, h => by
    have := cB_at D L y n (k := k) (m := m) (by omega)
    show (cB D L y n k).getD m 0 = _
    rw [this, show k + 1 - 1 - (m + 1) = k - 1 - m by omega, show k + 1 - (m + 1) = k - m by omega]
theorem c_size {D : List Int} {L : List (List Int)} {y : List Rat} {t dl : Int} {A1 e0 z m n : Nat} (hY : ∀ i, i < n → QC (y.getD i 0) (t * dl ^ e0) A1) (hM : ∀ i j, j < i → i < n → QC (muq D L i j) dl m) (hz : ∀ k, zl (dl ^ k) ≤ k * z + 1) :
    ∀ s, s < n → ∀ j, j ≤ s → QC (cP D L y (cB D L y n s) (n - (s + 1)) j) (t * dl ^ (e0 + s)) (A1 + s * (z + m + n + 2) + j + 1) := by
  intro s
  induction s using Nat.strongRecOn with
  | ind s ih =>
    intro hs
    obtain ⟨w, hw⟩ : ∃ w, w = z + m + n + 2 := ⟨_, rfl⟩
    rw [← hw]
    have hzw : ∀ k, k * z ≤ k * w := fun k => Nat.mul_le_mul_left _ (by omega)
    intro j
    induction j with
    | zero =>
      intro _
      refine (((hY (n - (s + 1)) (by omega)).up (dl ^ s)).cast (by rw [Int.pow_add]; ac_rfl)).mono ?_
      have h1 := hz s
      have h2 := hzw s
      omega
    | succ j hj =>
      intro hji
      have p := hj (by omega)
      have c := ih (s - 1 - j) (by omega) (by omega) (s - 1 - j) (Nat.le_refl _)
      rw [← hw] at c
      have q := ((hM (n - (s + 1) + 1 + j) (n - (s + 1)) (by omega) (by omega)).mul c).up (dl ^ j)
      have e5 : dl ^ (e0 + (s - 1 - j) + 1 + j) = dl ^ (e0 + (s - 1 - j)) * dl * dl ^ j := by rw [Int.pow_add, Int.pow_succ]
      rw [show e0 + (s - 1 - j) + 1 + j = e0 + s by omega] at e5
      have q' := q.cast (d' := t * dl ^ (e0 + s)) (by rw [e5]; ac_rfl)
      have e : cP D L y (cB D L y n s) (n - (s + 1)) (j + 1) = cP D L y (cB D L y n s) (n - (s + 1)) j - muq D L (n - (s + 1) + 1 + j) (n - (s + 1)) * cP D L y (cB D L y n (s - 1 - j)) (n - (s - 1 - j + 1)) (s - 1 - j) := by
        show _ - _ * (cB D L y n s).getD j 0 = _
        rw [cB_at D L y n (by omega), show s - j = s - 1 - j + 1 by omega]
      rw [e]
      refine (p.sub q').mono ?_
      have h1 := hz j
      have h2 := hzw j
      have h3 : (s - 1 - j) * w + j * w + w = s * w := by rw [← Nat.add_mul, ← Nat.succ_mul]; congr 1; omega
      omega
/-- The coefficients themselves. -/
theorem c_size' {D : List Int} {L : List (List Int)} {y : List Rat} {t dl : Int} {A1 e0 z m n : Nat} (hY : ∀ i, i < n → QC (y.getD i 0) (t * dl ^ e0) A1) (hM : ∀ i j, j < i → i < n → QC (muq D L i j) dl m) (hz : ∀ k, zl (dl ^ k) ≤ k * z + 1) {i : Nat} (hi : i < n) : QC ((cB D L y n n).getD i 0) (t * dl ^ (e0 + (n - 1 - i))) (A1 + (n - 1 - i) * (z + m + n + 2) + (n - 1 - i) + 1) := by
  rw [cB_at D L y n hi]
  have := c_size hY hM hz (n - 1 - i) (by omega) (n - 1 - i) (Nat.le_refl _)
  rwa [show n - 1 - i + 1 = n - i by omega] at this
theorem l_size {b : List (List Int)} {c : List Rat} {d : Rat} {k : Nat} {T : Int} {A mb n : Nat} (hd : QC d T A) (hC : ∀ i, i < n → QC (c.getD i 0) T A) (hb : ∀ i, i < n → zl ((b.getD i []).getD k 0) ≤ mb) : ∀ i, i ≤ n → QC (lq b c d k i) T (A + mb + i) := by
  intro i
  induction i with
  | zero => intro _; exact hd.mono (by omega)
  | succ i ih =>
    intro hi
    have p := ih (by omega)
    have q := ((hC i (by omega)).mul (QC.int ((b.getD i []).getD k 0))).cast (d' := T) (Int.mul_one _)
    have := hb i (by omega)
    exact (p.sub q).mono (by omega)
theorem h_size {b : List (List Int)} {c : List Rat} {ts : List (Int × Int)} {T : Int} {A mb n : Nat} (hd : ∀ k, k < ts.length → QC (((ts.getD k (0, 0)).1 : Rat) / ((ts.getD k (0, 0)).2 : Rat)) T A) (hC : ∀ i, i < n → QC (c.getD i 0) T A) (hb : ∀ i k, i < n → zl ((b.getD i []).getD k 0) ≤ mb) : ∀ k, k ≤ ts.length → QC (hq b c ts n k) (T * T) (A + mb + n + (A + mb + n) + k + 1) := by
  intro k
  induction k with
  | zero =>
    intro _
    exact ⟨0, by show (0 : Rat) * _ = _; rw [Rat.zero_mul]; rfl, by show lim 0 ≤ _; unfold lim; rw [dig_zero]; exact Nat.zero_le _⟩
  | succ k ih =>
    intro hk
    have p := ih (by omega)
    have l := l_size (hd k (by omega)) hC (fun i hi => hb i k hi) n (Nat.le_refl _)
    exact (p.add (l.mul l)).mono (by omega)
end Go.Proofs.YtmfgnbchehnpjaaGreat.V
/- The premises of the sizes: what divides the common denominator. -/
set_option linter.unusedVariables false
set_option maxRecDepth 100000
namespace Go.Proofs.YtmfgnbchehnpjaaGreat.V
open Go.RowKit Mt Nml
theorem QC.dvd {a b P : Int} (hb : b ≠ 0) (hP : P ≠ 0) (h : b ∣ P) : QC ((a : Rat) / (b : Rat)) P (zl a + zl P) := by
  obtain ⟨c, hc⟩ := h
  have hne := rat_ne hb
  have hz : zl c ≤ zl P := by
    unfold zl
    refine lim_mono ?_
    rw [hc, Int.natAbs_mul]
    exact Nat.le_mul_of_pos_left _ (Int.natAbs_pos.2 hb)
  refine ⟨a * c, ?_, zl_mul (Nat.le_refl _) hz⟩
  rw [hc, Rat.intCast_mul, Rat.intCast_mul]
  generalize (a : Rat) = x
  generalize (c : Rat) = u
  generalize (b : Rat) = y at hne
  grind
/-- The product of a point's denominators. -/
def dpr : List (Int × Int) → Int
  | [] => 1
  | q :: l => q.2 * dpr l
theorem dpr_pos : ∀ {ts : List (Int × Int)}, (∀ i, i < ts.length → 0 < (ts.getD i (0, 0)).2) → 0 < dpr ts
  | [], _ => by decide
  | q :: l, h => Int.mul_pos (h 0 (by simp)) (dpr_pos (ts := l) fun i hi => h (i + 1) (by simp; omega))
theorem dpr_dvd : ∀ {ts : List (Int × Int)} {i : Nat}, i < ts.length → (ts.getD i (0, 0)).2 ∣ dpr ts
  | q :: l, 0, _ => ⟨dpr l, rfl⟩
  | q :: l, i + 1, h => by
    have h' : i < l.length := by simp at h; omega
    obtain ⟨c, hc⟩ := dpr_dvd (ts := l) h'
    refine ⟨q.2 * c, ?_⟩
    show q.2 * dpr l = (l.getD i (0, 0)).2 * (q.2 * c)
    rw [hc]
    ac_rfl
theorem t_size {ts : List (Int × Int)} (hp : ∀ i, i < ts.length → 0 < (ts.getD i (0, 0)).2) {k : Nat} (hk : k < ts.length) : QC (((ts.getD k (0, 0)).1 : Rat) / ((ts.getD k (0, 0)).2 : Rat)) (dpr ts) (zl (ts.getD k (0, 0)).1 + zl (dpr ts)) :=
  QC.dvd (by have := hp k hk; omega) (by have := dpr_pos hp; omega) (dpr_dvd hk)
theorem a_size {ts : List (Int × Int)} {r : List Int} {T : Int} {A mb : Nat} (hd : ∀ k, k < ts.length → QC (((ts.getD k (0, 0)).1 : Rat) / ((ts.getD k (0, 0)).2 : Rat)) T A) (hb : ∀ k, zl (r.getD k 0) ≤ mb) : ∀ i, i ≤ ts.length → QC (alq ts r i) T (A + mb + i + 1) := by
  intro i
  induction i with
  | zero =>
    intro _
    exact ⟨0, by show (0 : Rat) * _ = _; rw [Rat.zero_mul]; rfl, by show lim 0 ≤ _; unfold lim; rw [dig_zero]; exact Nat.zero_le _⟩
  | succ i ih =>
    intro hi
    have p := ih (by omega)
    have q := ((hd i (by omega)).mul (QC.int (r.getD i 0))).cast (d' := T) (Int.mul_one _)
    have := hb i
    exact (p.add q).mono (by omega)
theorem mu_size {D : List Int} {L : List (List Int)} {dl : Int} (hdl : dl ≠ 0) {i j : Nat} (h0 : D.getD (j + 1) 0 ≠ 0) (h : D.getD (j + 1) 0 ∣ dl) : QC (muq D L i j) dl (zl ((L.getD i []).getD j 0) + zl dl) := QC.dvd h0 hdl h
theorem mus_size {D : List Int} {L : List (List Int)} {dl : Int} (hdl : dl ≠ 0) {i j : Nat} (h1 : D.getD (j + 1) 0 ≠ 0) (h0 : D.getD j 0 ≠ 0) (h : D.getD j 0 ∣ dl) : QC (muq D L i j * stq D j) dl (zl ((L.getD i []).getD j 0) + zl dl) := by
  have e : muq D L i j * stq D j = (((L.getD i []).getD j 0 : Int) : Rat) / ((D.getD j 0 : Int) : Rat) := by
    unfold muq stq
    have n1 := rat_ne h1
    have n0 := rat_ne h0
    generalize (((L.getD i []).getD j 0 : Int) : Rat) = x
    generalize ((D.getD (j + 1) 0 : Int) : Rat) = y at n1
    generalize ((D.getD j 0 : Int) : Rat) = u at n0
    grind
  rw [e]
  exact QC.dvd h0 hdl h
theorem st_size {D : List Int} {dl : Int} (hdl : dl ≠ 0) {i : Nat} (h1 : D.getD (i + 1) 0 ≠ 0) (h0 : D.getD i 0 ≠ 0) (h : D.getD (i + 1) 0 ∣ dl) : QC ((stq D i)⁻¹) dl (zl (D.getD i 0) + zl dl) := by
  have e : (stq D i)⁻¹ = ((D.getD i 0 : Int) : Rat) / ((D.getD (i + 1) 0 : Int) : Rat) := by
    unfold stq
    have n1 := rat_ne h1
    have n0 := rat_ne h0
    generalize ((D.getD (i + 1) 0 : Int) : Rat) = y at n1
    generalize ((D.getD i 0 : Int) : Rat) = u at n0
    grind
  rw [e]
  exact QC.dvd h1 hdl h
end Go.Proofs.YtmfgnbchehnpjaaGreat.V
