/- Words and contracts for the row RowFnExactKeysOk: what the Go functions answer that it calls; printed by programs of the kit and of this session, and merged. -/
import Derived.Test.YtdicaljeegaieaaDoorQk3
import Derived.Sort.Walk0
import Derived.Lib.SplitLaws
import Derived.Lib.IndexBytes
import Derived.ChangeArms
import Derived.ChangeSlices
import Derived.DataElems
namespace Go.Proofs.YtdicaljeegaieaaDoor.L
open Go.RowKit Go.Proofs.YtdicaljeegaieaaDoorW.PrintWords Go.Proofs.YtdicaljeegaieaaDoorW.PrintLast Go.Proofs.YtdicaljeegaieaaDoorW.PrintMore
attribute [local go_sem] max2_int min2_int max_two min_two max_three min_three max_four min_four
set_option linter.unusedVariables false
set_option linter.unusedSimpArgs false

/-! ### laws_eqKeyS: function 15 -/
def laws_eqKeyS.l0 : Nat → List (S72) → List (S72) → Int → Option (Bool)
 | 0, _, _, _ => none
 | k + 1, x0, x1, x5 => if x5 < (x0.length : Int) then (if 0 ≤ x5 then (if x5 < (x1.length : Int) then ((laws_eqKey.f k ((rd_T72 x0 x5).f0) ((rd_T72 x0 x5).f1) ((rd_T72 x0 x5).f2) ((rd_T72 x0 x5).f3) ((rd_T72 x0 x5).f4) ((rd_T72 x0 x5).f5) ((rd_T72 x1 x5).f0) ((rd_T72 x1 x5).f1) ((rd_T72 x1 x5).f2) ((rd_T72 x1 x5).f3) ((rd_T72 x1 x5).f4) ((rd_T72 x1 x5).f5)).bind fun t237 => (if t237 = true then (laws_eqKeyS.l0 k x0 x1 (wrap64 (x5 + 1))) else (some false))) else (none)) else (none)) else (some true)
def laws_eqKeyS.f (k : Nat) (l0 : List (S72)) (l1 : List (S72)) : Option (Bool) := if (l0.length : Int) = (l1.length : Int) then (laws_eqKeyS.l0 k l0 l1 0) else (some false)
def laws_eqKeyS.T6 : Bool × List (List Nat × List Nat) := (true, [([], []), ([], []), ([0, 1], [0, 1]), ([2], [2]), ([], []), ([], []), ([4, 5], [4, 5]), ([6], [6]), ([3, 7], [3, 7]), ([8], [8])])
def laws_eqKeyS.B6 : List Nat := [0, 0, 3, 7, 0, 0, 48, 112, 255, 511]
theorem laws_eqKeyS.tab6 : rtab .any (opsOf Tryd.f15 6) = laws_eqKeyS.T6 := by kernel_rfl
theorem laws_eqKeyS.bits6 : waitsOk laws_eqKeyS.T6.2 laws_eqKeyS.B6 = true := by kernel_rfl
set_option maxHeartbeats 8000000 in
set_option maxRecDepth 100000 in
theorem laws_eqKeyS.calls (k : Nat) (A0 : Option Addr) (c0 : Nat) (l0 : List (S72)) (A1 : Option Addr) (c1 : Nat) (l1 : List (S72)) (r : Bool) (w : World) (hr0 : Kd.C k72 w A0 l0.length l0) (hc0 : l0.length ≤ c0) (hr1 : Kd.C k72 w A1 l1.length l1) (hc1 : l1.length ≤ c1) (h : laws_eqKeyS.f k l0 l1 = some r) :
  Calls Tryd.prog 15 #[.slice A0 l0.length c0, .slice A1 l1.length c1] w fun e w' => e = .returned (.bool r) ∧ Below w.heap.size w w' := by
 have hu72 := Tryd.underlying72
 have HR0 := Aside0.mk hr0
 have HC0 := Aside0.mk hc0
 clear hr0 hc0
 have HR1 := Aside0.mk hr1
 have HC1 := Aside0.mk hc1
 clear hr1 hc1
 have HB := Aside0.mk (Below.refl w.heap.size w)
 have H : (if (l0.length : Int) = (l1.length : Int) then (laws_eqKeyS.l0 k l0 l1 0) else (some false)) = some r := h
 clear h
 by_cases c3 : (l0.length : Int) = (l1.length : Int)
 ·rw [if_pos c3] at H
  have c3b0 : ((l0.length : Int) == (l1.length : Int)) = true := beq_iff_eq.mpr c3
  have c3b1 : ((l0.length : Int) != (l1.length : Int)) = false := bne_eq_false_iff_eq.mpr c3
  have c3b2 : (l0.length == l1.length) = true := by first | simpa using c3 | (simp at c3 ⊢; omega)
  clear c3
  have H' := Aside0.mk H
  clear H
  go_enter Tryd.func15, Tryd.ntmps15
  go_wp2
  go_loopg [5] k (fun kq v5 w' => ∃ (x5_1 : Int), v5 = .int .i64 x5_1 ∧ Aside0 (laws_eqKeyS.l0 kq l0 l1 x5_1 = some r) ∧ Aside0 (kq ≤ k) ∧ Aside0 (Below w.heap.size w w'))
  case atStart => exact ⟨(0), (by first | rfl | (simp; done) | (simp [*]; done)), H', ⟨Nat.le_refl _⟩, ⟨by repeat (first | (with_reducible first | exact HB.out | apply below_alloc | apply pw_below_drewN | apply below_drew1) | exact HB.out)⟩⟩
  case round =>
   clear H'
   try clear c1
   try clear p2
   try clear c3
   try clear c3b0
   try clear c3b1
   try clear c3b2
   obtain ⟨x5_1, rfl, HA, HK1, HB⟩ := hrel
   cases gk with
   | zero => exact absurd HA.out (by simp [laws_eqKeyS.l0])
   | succ k1 =>
    have H := HA.out
    clear HA
    simp only [laws_eqKeyS.l0] at H
    by_cases c4 : x5_1 < (l0.length : Int)
    ·rw [if_pos c4] at H
     have c4b0 : decide (x5_1 < (l0.length : Int)) = true := decide_eq_true c4
     clear c4
     by_cases c5 : 0 ≤ x5_1
     ·rw [if_pos c5] at H
      have c5b0 : decide (0 ≤ x5_1) = true := decide_eq_true c5
      clear c5
      by_cases c6 : x5_1 < (l1.length : Int)
      ·rw [if_pos c6] at H
       have c6b0 : decide (x5_1 < (l1.length : Int)) = true := decide_eq_true c6
       clear c6
       replace H := Option.bind_eq_some_iff.mp H
       obtain ⟨t237, A70, H⟩ := H
       replace H : (if t237 = true then (laws_eqKeyS.l0 k1 l0 l1 (wrap64 (x5_1 + 1))) else (some false)) = some r := H
       have A7 := Aside0.mk A70
       clear A70
       by_cases c8 : t237 = true
       ·subst c8
        have H1 : (laws_eqKeyS.l0 k1 l0 l1 (wrap64 (x5_1 + 1))) = some r := by rw [if_pos rfl] at H; exact H
        clear H
        have H := H1
        clear H1
        have H' := Aside0.mk H
        clear H
        try go_wp2
        have n0_ := Aside0.mk (below_drew1 HB.out)
        clear HB
        have HB := n0_
        clear n0_
        have p235 : 0 ≤ (x5_1 : Int) := of_decide_eq_true (by first | (with_reducible assumption) | assumption)
        have q235 : x5_1 < (l0.length : Int) := of_decide_eq_true (by first | (with_reducible assumption) | assumption)
        obtain ⟨ad235, A235_4, c235_4, e235, hx235_0, hx235_1, hx235_2, hx235_3, hx235_4, hx235_5, hl235_4, hi235_4⟩ := at_T72 HR0.out x5_1 p235 q235
        have hw235_5 := hx235_5
        have hw235_4 := hx235_4
        have hw235_3 := hx235_3
        have hw235_2 := hx235_2
        have hw235_1 := hx235_1
        have hw235_0 := hx235_0
        cases e235
        replace hx235_0 := (HB.out.cell (World.block_lt_of_cell? w _ hx235_0)).trans hx235_0
        replace hx235_1 := (HB.out.cell (World.block_lt_of_cell? w _ hx235_1)).trans hx235_1
        replace hx235_2 := (HB.out.cell (World.block_lt_of_cell? w _ hx235_2)).trans hx235_2
        replace hx235_3 := (HB.out.cell (World.block_lt_of_cell? w _ hx235_3)).trans hx235_3
        replace hx235_4 := (HB.out.cell (World.block_lt_of_cell? w _ hx235_4)).trans hx235_4
        replace hx235_5 := (HB.out.cell (World.block_lt_of_cell? w _ hx235_5)).trans hx235_5
        have HR235_4 := Aside0.mk hi235_4
        have HC235_4 := Aside0.mk hl235_4
        clear hi235_4 hl235_4
        replace p235 := eq_true p235
        replace q235 := eq_true q235
        have p236 : 0 ≤ (x5_1 : Int) := of_decide_eq_true (by first | (with_reducible assumption) | assumption)
        have q236 : x5_1 < (l1.length : Int) := of_decide_eq_true (by first | (with_reducible assumption) | assumption)
        obtain ⟨ad236, A236_4, c236_4, e236, hx236_0, hx236_1, hx236_2, hx236_3, hx236_4, hx236_5, hl236_4, hi236_4⟩ := at_T72 HR1.out x5_1 p236 q236
        have hw236_5 := hx236_5
        have hw236_4 := hx236_4
        have hw236_3 := hx236_3
        have hw236_2 := hx236_2
        have hw236_1 := hx236_1
        have hw236_0 := hx236_0
        cases e236
        replace hx236_0 := (HB.out.cell (World.block_lt_of_cell? w _ hx236_0)).trans hx236_0
        replace hx236_1 := (HB.out.cell (World.block_lt_of_cell? w _ hx236_1)).trans hx236_1
        replace hx236_2 := (HB.out.cell (World.block_lt_of_cell? w _ hx236_2)).trans hx236_2
        replace hx236_3 := (HB.out.cell (World.block_lt_of_cell? w _ hx236_3)).trans hx236_3
        replace hx236_4 := (HB.out.cell (World.block_lt_of_cell? w _ hx236_4)).trans hx236_4
        replace hx236_5 := (HB.out.cell (World.block_lt_of_cell? w _ hx236_5)).trans hx236_5
        have HR236_4 := Aside0.mk hi236_4
        have HC236_4 := Aside0.mk hl236_4
        clear hi236_4 hl236_4
        replace p236 := eq_true p236
        replace q236 := eq_true q236
        refine start_ (n := 10) (S := fun w' => w'.cell? (ad235.add ((x5_1).toNat * 6)) = some (.string ((rd_T72 l0 x5_1).f0)) ∧ w'.cell? ⟨(ad235.add ((x5_1).toNat * 6)).block, (ad235.add ((x5_1).toNat * 6)).off + 1, none⟩ = some (.int .i64 ((rd_T72 l0 x5_1).f1)) ∧ w'.cell? ⟨(ad235.add ((x5_1).toNat * 6)).block, (ad235.add ((x5_1).toNat * 6)).off + 2, none⟩ = some (.string ((rd_T72 l0 x5_1).f2)) ∧ w'.cell? ⟨(ad235.add ((x5_1).toNat * 6)).block, (ad235.add ((x5_1).toNat * 6)).off + 3, none⟩ = some (.string ((rd_T72 l0 x5_1).f3)) ∧ w'.cell? ⟨(ad235.add ((x5_1).toNat * 6)).block, (ad235.add ((x5_1).toNat * 6)).off + 4, none⟩ = some (.slice A235_4 ((rd_T72 l0 x5_1).f4).length c235_4) ∧ w'.cell? ⟨(ad235.add ((x5_1).toNat * 6)).block, (ad235.add ((x5_1).toNat * 6)).off + 5, none⟩ = some (.string ((rd_T72 l0 x5_1).f5)) ∧ w'.cell? (ad236.add ((x5_1).toNat * 6)) = some (.string ((rd_T72 l1 x5_1).f0)) ∧ w'.cell? ⟨(ad236.add ((x5_1).toNat * 6)).block, (ad236.add ((x5_1).toNat * 6)).off + 1, none⟩ = some (.int .i64 ((rd_T72 l1 x5_1).f1)) ∧ w'.cell? ⟨(ad236.add ((x5_1).toNat * 6)).block, (ad236.add ((x5_1).toNat * 6)).off + 2, none⟩ = some (.string ((rd_T72 l1 x5_1).f2)) ∧ w'.cell? ⟨(ad236.add ((x5_1).toNat * 6)).block, (ad236.add ((x5_1).toNat * 6)).off + 3, none⟩ = some (.string ((rd_T72 l1 x5_1).f3)) ∧ w'.cell? ⟨(ad236.add ((x5_1).toNat * 6)).block, (ad236.add ((x5_1).toNat * 6)).off + 4, none⟩ = some (.slice A236_4 ((rd_T72 l1 x5_1).f4).length c236_4) ∧ w'.cell? ⟨(ad236.add ((x5_1).toNat * 6)).block, (ad236.add ((x5_1).toNat * 6)).off + 5, none⟩ = some (.string ((rd_T72 l1 x5_1).f5))) (ds := []) #[false, false, false, false, false, false, false, false, false, false] (by kernel_rfl) rfl rfl ⟨((HB.out.cell (World.block_lt_of_cell? w _ hw235_0)).trans hw235_0), ((HB.out.cell (World.block_lt_of_cell? w _ hw235_1)).trans hw235_1), ((HB.out.cell (World.block_lt_of_cell? w _ hw235_2)).trans hw235_2), ((HB.out.cell (World.block_lt_of_cell? w _ hw235_3)).trans hw235_3), ((HB.out.cell (World.block_lt_of_cell? w _ hw235_4)).trans hw235_4), ((HB.out.cell (World.block_lt_of_cell? w _ hw235_5)).trans hw235_5), ((HB.out.cell (World.block_lt_of_cell? w _ hw236_0)).trans hw236_0), ((HB.out.cell (World.block_lt_of_cell? w _ hw236_1)).trans hw236_1), ((HB.out.cell (World.block_lt_of_cell? w _ hw236_2)).trans hw236_2), ((HB.out.cell (World.block_lt_of_cell? w _ hw236_3)).trans hw236_3), ((HB.out.cell (World.block_lt_of_cell? w _ hw236_4)).trans hw236_4), ((HB.out.cell (World.block_lt_of_cell? w _ hw236_5)).trans hw236_5)⟩ (fun hHeld => ?_); refine with_tabW laws_eqKeyS.tab6 laws_eqKeyS.bits6 (fun HT_ HW_ => ?_)
        generalize wr.drew = w9 at HB HR235_4 HR236_4 hx235_0 hx235_1 hx235_2 hx235_3 hx235_4 hx235_5 hx236_0 hx236_1 hx236_2 hx236_3 hx236_4 hx236_5 hHeld ⊢
        refine pure_ (i := 0) (N := some 17) (v := ?_) (a' := ?_) #[true, false, false, false, false, false, false, false, false, false] rfl rfl (any_of HT_.out (by kernel_rfl)) (fun _ _ _ h => h) (Or.inl ⟨by rfl, ?_⟩) ?_ ?_
        rotate_left
        ·intro w'
         go_simp
         with_reducible rfl
        rotate_left
        ·simp only [Act.put, List.setIfInBounds_toArray, List.set_cons_zero, List.set_cons_succ, i64_w, i32_w]
         rfl
        refine pure_ (i := 1) (N := some 18) (v := ?_) (a' := ?_) #[true, true, false, false, false, false, false, false, false, false] rfl rfl (any_of HT_.out (by kernel_rfl)) (fun _ _ _ h => h) (Or.inl ⟨by rfl, ?_⟩) ?_ ?_
        rotate_left
        ·intro w'
         go_simp
         with_reducible rfl
        rotate_left
        ·simp only [Act.put, List.setIfInBounds_toArray, List.set_cons_zero, List.set_cons_succ, i64_w, i32_w]
         rfl
        refine pure_ (i := 2) (N := some 19) (v := ?_) (a' := ?_) #[true, true, true, false, false, false, false, false, false, false] rfl rfl (any_of HT_.out (by kernel_rfl)) (fun _ _ _ h => h) (Or.inl ⟨by rfl, ?_⟩) ?_ ?_
        rotate_left
        ·intro w'
         go_simp
         with_reducible rfl
        rotate_left
        ·simp only [Act.put, List.setIfInBounds_toArray, List.set_cons_zero, List.set_cons_succ, i64_w, i32_w]
         rfl
        refine pure_ (i := 4) (N := some 21) (v := ?_) (a' := ?_) #[true, true, true, false, true, false, false, false, false, false] rfl rfl (any_of HT_.out (by kernel_rfl)) (fun _ _ _ h => h) (Or.inl ⟨by rfl, ?_⟩) ?_ ?_
        rotate_left
        ·intro w'
         go_simp
         with_reducible rfl
        rotate_left
        ·simp only [Act.put, List.setIfInBounds_toArray, List.set_cons_zero, List.set_cons_succ, i64_w, i32_w]
         rfl
        refine pure_ (i := 5) (N := some 22) (v := ?_) (a' := ?_) #[true, true, true, false, true, true, false, false, false, false] rfl rfl (any_of HT_.out (by kernel_rfl)) (fun _ _ _ h => h) (Or.inl ⟨by rfl, ?_⟩) ?_ ?_
        rotate_left
        ·intro w'
         go_simp
         with_reducible rfl
        rotate_left
        ·simp only [Act.put, List.setIfInBounds_toArray, List.set_cons_zero, List.set_cons_succ, i64_w, i32_w]
         rfl
        refine pure_ (i := 6) (N := some 23) (v := ?_) (a' := ?_) #[true, true, true, false, true, true, true, false, false, false] rfl rfl (any_of HT_.out (by kernel_rfl)) (fun _ _ _ h => h) (Or.inl ⟨by rfl, ?_⟩) ?_ ?_
        rotate_left
        ·intro w'
         go_simp
         with_reducible rfl
        rotate_left
        ·simp only [Act.put, List.setIfInBounds_toArray, List.set_cons_zero, List.set_cons_succ, i64_w, i32_w]
         rfl
        refine take_ (i := 3) (N := some 20) (v := ?_) (a' := ?_) #[true, true, true, true, true, true, true, false, false, false] rfl rfl (take_ofW HT_.out HW_.out (by kernel_rfl)) (fun _ _ _ h => h) (Or.inl ⟨by rfl, ?_⟩) hHeld ?_ ?_
        rotate_left
        ·rintro w' ⟨s0, s1, s2, s3, s4, s5, s6, s7, s8, s9, s10, s11⟩
         go_simp
         with_reducible rfl
        rotate_left
        ·simp only [Act.put, List.setIfInBounds_toArray, List.set_cons_zero, List.set_cons_succ, i64_w, i32_w]
         rfl
        refine take_ (i := 7) (N := some 24) (v := ?_) (a' := ?_) #[true, true, true, true, true, true, true, true, false, false] rfl rfl (take_ofW HT_.out HW_.out (by kernel_rfl)) (fun _ _ _ h => h) (Or.inl ⟨by rfl, ?_⟩) hHeld ?_ ?_
        rotate_left
        ·rintro w' ⟨s0, s1, s2, s3, s4, s5, s6, s7, s8, s9, s10, s11⟩
         go_simp
         with_reducible rfl
        rotate_left
        ·simp only [Act.put, List.setIfInBounds_toArray, List.set_cons_zero, List.set_cons_succ, i64_w, i32_w]
         rfl
        refine one_ (i := 8) (N := some 25) #[true, true, true, true, true, true, true, true, true, false] rfl rfl (one_of HT_.out (by kernel_rfl)) (by decide) (fun K hK => ?_)
        refine goes_ Tryd.func52 (by kernel_rfl) rfl #[.agg #[.string ((rd_T72 l0 x5_1).f0), .int .i64 ((rd_T72 l0 x5_1).f1), .string ((rd_T72 l0 x5_1).f2), .string ((rd_T72 l0 x5_1).f3), .slice A235_4 ((rd_T72 l0 x5_1).f4).length c235_4, .string ((rd_T72 l0 x5_1).f5)], .agg #[.string ((rd_T72 l1 x5_1).f0), .int .i64 ((rd_T72 l1 x5_1).f1), .string ((rd_T72 l1 x5_1).f2), .string ((rd_T72 l1 x5_1).f3), .slice A236_4 ((rd_T72 l1 x5_1).f4).length c236_4, .string ((rd_T72 l1 x5_1).f5)]] (by rfl) rfl rfl (by (try simp only [List.map_toArray, List.map_cons, List.map_nil]); first | done | rfl | (simp only [List.length_drop, List.length_take]; rfl)) ?_
        with_reducible refine (laws_eqKey.calls k1 ((rd_T72 l0 x5_1).f0) ((rd_T72 l0 x5_1).f1) ((rd_T72 l0 x5_1).f2) ((rd_T72 l0 x5_1).f3) _ _ ((rd_T72 l0 x5_1).f4) ((rd_T72 l0 x5_1).f5) ((rd_T72 l1 x5_1).f0) ((rd_T72 l1 x5_1).f1) ((rd_T72 l1 x5_1).f2) ((rd_T72 l1 x5_1).f3) _ _ ((rd_T72 l1 x5_1).f4) ((rd_T72 l1 x5_1).f5) true _ ?side1 ?side2 ?side3 ?side4 A7.out).mono ?_
        (case side1 => repeat (first | exact (Kd.C_below HR235_4.out HB.out) | (with_reducible refine Kd.C_alloc ?_ _) | (with_reducible refine Kd.C_drewN ?_ _) | (with_reducible refine Kd.C_drew ?_)))
        (case side2 => exact HC235_4.out)
        (case side3 => repeat (first | exact (Kd.C_below HR236_4.out HB.out) | (with_reducible refine Kd.C_alloc ?_ _) | (with_reducible refine Kd.C_drewN ?_ _) | (with_reducible refine Kd.C_drew ?_)))
        (case side4 => exact HC236_4.out)
        rintro e w10 ⟨rfl, hb⟩
        refine ⟨_, rfl, ?_⟩
        have n0_ := Aside0.mk (below_step (by repeat (first | (with_reducible first | exact HB.out | apply below_alloc | apply pw_below_drewN | apply below_drew1) | exact HB.out)) hb)
        clear HB
        have HB := n0_
        clear n0_
        (try clear hb)
        (try clear hb2)
        (try clear hk)
        (try clear hi)
        refine hK.out _ _ ⟨((HB.out.cell (World.block_lt_of_cell? w _ hw235_0)).trans hw235_0), ((HB.out.cell (World.block_lt_of_cell? w _ hw235_1)).trans hw235_1), ((HB.out.cell (World.block_lt_of_cell? w _ hw235_2)).trans hw235_2), ((HB.out.cell (World.block_lt_of_cell? w _ hw235_3)).trans hw235_3), ((HB.out.cell (World.block_lt_of_cell? w _ hw235_4)).trans hw235_4), ((HB.out.cell (World.block_lt_of_cell? w _ hw235_5)).trans hw235_5), ((HB.out.cell (World.block_lt_of_cell? w _ hw236_0)).trans hw236_0), ((HB.out.cell (World.block_lt_of_cell? w _ hw236_1)).trans hw236_1), ((HB.out.cell (World.block_lt_of_cell? w _ hw236_2)).trans hw236_2), ((HB.out.cell (World.block_lt_of_cell? w _ hw236_3)).trans hw236_3), ((HB.out.cell (World.block_lt_of_cell? w _ hw236_4)).trans hw236_4), ((HB.out.cell (World.block_lt_of_cell? w _ hw236_5)).trans hw236_5)⟩ (fun hHeld => ?_)
        clear hK K
        refine norm_ (a' := ?_) ?_ ?_
        rotate_left
        ·show Act.put _ (some 25) _ = _
         simp only [Act.put, List.setIfInBounds_toArray, List.set_cons_zero, List.set_cons_succ, i64_w, i32_w]
         rfl
        refine pure_ (i := 9) (N := some 26) (v := ?_) (a' := ?_) #[true, true, true, true, true, true, true, true, true, true] rfl rfl (any_of HT_.out (by kernel_rfl)) (fun _ _ _ h => h) (Or.inl ⟨by rfl, ?_⟩) ?_ ?_
        rotate_left
        ·intro w'
         go_simp
         with_reducible rfl
        rotate_left
        ·simp only [Act.put, List.setIfInBounds_toArray, List.set_cons_zero, List.set_cons_succ, i64_w, i32_w]
         rfl
        refine done_ (done_of HT_.out (by kernel_rfl)) ?_
        try go_wp2
        go_roundg k1
        case measure => have := HK1.out; omega
        case rel => exact ⟨(wrap64 (x5_1 + 1)), (by first | rfl | (simp; done) | (simp [*]; done)), H', ⟨by have := HK1.out; omega⟩, ⟨by repeat (first | (with_reducible first | exact HB.out | apply below_alloc | apply pw_below_drewN | apply below_drew1) | exact HB.out)⟩⟩
       ·replace c8 := Bool.eq_false_iff.mpr c8
        subst c8
        have H1 : (some false) = some r := by rw [if_neg (show ¬ (false = true) by decide)] at H; exact H
        clear H
        have H := H1
        clear H1
        obtain rfl := Option.some.inj H
        try go_wp2
        have n0_ := Aside0.mk (below_drew1 HB.out)
        clear HB
        have HB := n0_
        clear n0_
        have p235 : 0 ≤ (x5_1 : Int) := of_decide_eq_true (by first | (with_reducible assumption) | assumption)
        have q235 : x5_1 < (l0.length : Int) := of_decide_eq_true (by first | (with_reducible assumption) | assumption)
        obtain ⟨ad235, A235_4, c235_4, e235, hx235_0, hx235_1, hx235_2, hx235_3, hx235_4, hx235_5, hl235_4, hi235_4⟩ := at_T72 HR0.out x5_1 p235 q235
        have hw235_5 := hx235_5
        have hw235_4 := hx235_4
        have hw235_3 := hx235_3
        have hw235_2 := hx235_2
        have hw235_1 := hx235_1
        have hw235_0 := hx235_0
        cases e235
        replace hx235_0 := (HB.out.cell (World.block_lt_of_cell? w _ hx235_0)).trans hx235_0
        replace hx235_1 := (HB.out.cell (World.block_lt_of_cell? w _ hx235_1)).trans hx235_1
        replace hx235_2 := (HB.out.cell (World.block_lt_of_cell? w _ hx235_2)).trans hx235_2
        replace hx235_3 := (HB.out.cell (World.block_lt_of_cell? w _ hx235_3)).trans hx235_3
        replace hx235_4 := (HB.out.cell (World.block_lt_of_cell? w _ hx235_4)).trans hx235_4
        replace hx235_5 := (HB.out.cell (World.block_lt_of_cell? w _ hx235_5)).trans hx235_5
        have HR235_4 := Aside0.mk hi235_4
        have HC235_4 := Aside0.mk hl235_4
        clear hi235_4 hl235_4
        replace p235 := eq_true p235
        replace q235 := eq_true q235
        have p236 : 0 ≤ (x5_1 : Int) := of_decide_eq_true (by first | (with_reducible assumption) | assumption)
        have q236 : x5_1 < (l1.length : Int) := of_decide_eq_true (by first | (with_reducible assumption) | assumption)
        obtain ⟨ad236, A236_4, c236_4, e236, hx236_0, hx236_1, hx236_2, hx236_3, hx236_4, hx236_5, hl236_4, hi236_4⟩ := at_T72 HR1.out x5_1 p236 q236
        have hw236_5 := hx236_5
        have hw236_4 := hx236_4
        have hw236_3 := hx236_3
        have hw236_2 := hx236_2
        have hw236_1 := hx236_1
        have hw236_0 := hx236_0
        cases e236
        replace hx236_0 := (HB.out.cell (World.block_lt_of_cell? w _ hx236_0)).trans hx236_0
        replace hx236_1 := (HB.out.cell (World.block_lt_of_cell? w _ hx236_1)).trans hx236_1
        replace hx236_2 := (HB.out.cell (World.block_lt_of_cell? w _ hx236_2)).trans hx236_2
        replace hx236_3 := (HB.out.cell (World.block_lt_of_cell? w _ hx236_3)).trans hx236_3
        replace hx236_4 := (HB.out.cell (World.block_lt_of_cell? w _ hx236_4)).trans hx236_4
        replace hx236_5 := (HB.out.cell (World.block_lt_of_cell? w _ hx236_5)).trans hx236_5
        have HR236_4 := Aside0.mk hi236_4
        have HC236_4 := Aside0.mk hl236_4
        clear hi236_4 hl236_4
        replace p236 := eq_true p236
        replace q236 := eq_true q236
        refine start_ (n := 10) (S := fun w' => w'.cell? (ad235.add ((x5_1).toNat * 6)) = some (.string ((rd_T72 l0 x5_1).f0)) ∧ w'.cell? ⟨(ad235.add ((x5_1).toNat * 6)).block, (ad235.add ((x5_1).toNat * 6)).off + 1, none⟩ = some (.int .i64 ((rd_T72 l0 x5_1).f1)) ∧ w'.cell? ⟨(ad235.add ((x5_1).toNat * 6)).block, (ad235.add ((x5_1).toNat * 6)).off + 2, none⟩ = some (.string ((rd_T72 l0 x5_1).f2)) ∧ w'.cell? ⟨(ad235.add ((x5_1).toNat * 6)).block, (ad235.add ((x5_1).toNat * 6)).off + 3, none⟩ = some (.string ((rd_T72 l0 x5_1).f3)) ∧ w'.cell? ⟨(ad235.add ((x5_1).toNat * 6)).block, (ad235.add ((x5_1).toNat * 6)).off + 4, none⟩ = some (.slice A235_4 ((rd_T72 l0 x5_1).f4).length c235_4) ∧ w'.cell? ⟨(ad235.add ((x5_1).toNat * 6)).block, (ad235.add ((x5_1).toNat * 6)).off + 5, none⟩ = some (.string ((rd_T72 l0 x5_1).f5)) ∧ w'.cell? (ad236.add ((x5_1).toNat * 6)) = some (.string ((rd_T72 l1 x5_1).f0)) ∧ w'.cell? ⟨(ad236.add ((x5_1).toNat * 6)).block, (ad236.add ((x5_1).toNat * 6)).off + 1, none⟩ = some (.int .i64 ((rd_T72 l1 x5_1).f1)) ∧ w'.cell? ⟨(ad236.add ((x5_1).toNat * 6)).block, (ad236.add ((x5_1).toNat * 6)).off + 2, none⟩ = some (.string ((rd_T72 l1 x5_1).f2)) ∧ w'.cell? ⟨(ad236.add ((x5_1).toNat * 6)).block, (ad236.add ((x5_1).toNat * 6)).off + 3, none⟩ = some (.string ((rd_T72 l1 x5_1).f3)) ∧ w'.cell? ⟨(ad236.add ((x5_1).toNat * 6)).block, (ad236.add ((x5_1).toNat * 6)).off + 4, none⟩ = some (.slice A236_4 ((rd_T72 l1 x5_1).f4).length c236_4) ∧ w'.cell? ⟨(ad236.add ((x5_1).toNat * 6)).block, (ad236.add ((x5_1).toNat * 6)).off + 5, none⟩ = some (.string ((rd_T72 l1 x5_1).f5))) (ds := []) #[false, false, false, false, false, false, false, false, false, false] (by kernel_rfl) rfl rfl ⟨((HB.out.cell (World.block_lt_of_cell? w _ hw235_0)).trans hw235_0), ((HB.out.cell (World.block_lt_of_cell? w _ hw235_1)).trans hw235_1), ((HB.out.cell (World.block_lt_of_cell? w _ hw235_2)).trans hw235_2), ((HB.out.cell (World.block_lt_of_cell? w _ hw235_3)).trans hw235_3), ((HB.out.cell (World.block_lt_of_cell? w _ hw235_4)).trans hw235_4), ((HB.out.cell (World.block_lt_of_cell? w _ hw235_5)).trans hw235_5), ((HB.out.cell (World.block_lt_of_cell? w _ hw236_0)).trans hw236_0), ((HB.out.cell (World.block_lt_of_cell? w _ hw236_1)).trans hw236_1), ((HB.out.cell (World.block_lt_of_cell? w _ hw236_2)).trans hw236_2), ((HB.out.cell (World.block_lt_of_cell? w _ hw236_3)).trans hw236_3), ((HB.out.cell (World.block_lt_of_cell? w _ hw236_4)).trans hw236_4), ((HB.out.cell (World.block_lt_of_cell? w _ hw236_5)).trans hw236_5)⟩ (fun hHeld => ?_); refine with_tabW laws_eqKeyS.tab6 laws_eqKeyS.bits6 (fun HT_ HW_ => ?_)
        generalize wr.drew = w11 at HB HR235_4 HR236_4 hx235_0 hx235_1 hx235_2 hx235_3 hx235_4 hx235_5 hx236_0 hx236_1 hx236_2 hx236_3 hx236_4 hx236_5 hHeld ⊢
        refine pure_ (i := 0) (N := some 17) (v := ?_) (a' := ?_) #[true, false, false, false, false, false, false, false, false, false] rfl rfl (any_of HT_.out (by kernel_rfl)) (fun _ _ _ h => h) (Or.inl ⟨by rfl, ?_⟩) ?_ ?_
        rotate_left
        ·intro w'
         go_simp
         with_reducible rfl
        rotate_left
        ·simp only [Act.put, List.setIfInBounds_toArray, List.set_cons_zero, List.set_cons_succ, i64_w, i32_w]
         rfl
        refine pure_ (i := 1) (N := some 18) (v := ?_) (a' := ?_) #[true, true, false, false, false, false, false, false, false, false] rfl rfl (any_of HT_.out (by kernel_rfl)) (fun _ _ _ h => h) (Or.inl ⟨by rfl, ?_⟩) ?_ ?_
        rotate_left
        ·intro w'
         go_simp
         with_reducible rfl
        rotate_left
        ·simp only [Act.put, List.setIfInBounds_toArray, List.set_cons_zero, List.set_cons_succ, i64_w, i32_w]
         rfl
        refine pure_ (i := 2) (N := some 19) (v := ?_) (a' := ?_) #[true, true, true, false, false, false, false, false, false, false] rfl rfl (any_of HT_.out (by kernel_rfl)) (fun _ _ _ h => h) (Or.inl ⟨by rfl, ?_⟩) ?_ ?_
        rotate_left
        ·intro w'
         go_simp
         with_reducible rfl
        rotate_left
        ·simp only [Act.put, List.setIfInBounds_toArray, List.set_cons_zero, List.set_cons_succ, i64_w, i32_w]
         rfl
        refine pure_ (i := 4) (N := some 21) (v := ?_) (a' := ?_) #[true, true, true, false, true, false, false, false, false, false] rfl rfl (any_of HT_.out (by kernel_rfl)) (fun _ _ _ h => h) (Or.inl ⟨by rfl, ?_⟩) ?_ ?_
        rotate_left
        ·intro w'
         go_simp
         with_reducible rfl
        rotate_left
        ·simp only [Act.put, List.setIfInBounds_toArray, List.set_cons_zero, List.set_cons_succ, i64_w, i32_w]
         rfl
        refine pure_ (i := 5) (N := some 22) (v := ?_) (a' := ?_) #[true, true, true, false, true, true, false, false, false, false] rfl rfl (any_of HT_.out (by kernel_rfl)) (fun _ _ _ h => h) (Or.inl ⟨by rfl, ?_⟩) ?_ ?_
        rotate_left
        ·intro w'
         go_simp
         with_reducible rfl
        rotate_left
        ·simp only [Act.put, List.setIfInBounds_toArray, List.set_cons_zero, List.set_cons_succ, i64_w, i32_w]
         rfl
        refine pure_ (i := 6) (N := some 23) (v := ?_) (a' := ?_) #[true, true, true, false, true, true, true, false, false, false] rfl rfl (any_of HT_.out (by kernel_rfl)) (fun _ _ _ h => h) (Or.inl ⟨by rfl, ?_⟩) ?_ ?_
        rotate_left
        ·intro w'
         go_simp
         with_reducible rfl
        rotate_left
        ·simp only [Act.put, List.setIfInBounds_toArray, List.set_cons_zero, List.set_cons_succ, i64_w, i32_w]
         rfl
        refine take_ (i := 3) (N := some 20) (v := ?_) (a' := ?_) #[true, true, true, true, true, true, true, false, false, false] rfl rfl (take_ofW HT_.out HW_.out (by kernel_rfl)) (fun _ _ _ h => h) (Or.inl ⟨by rfl, ?_⟩) hHeld ?_ ?_
        rotate_left
        ·rintro w' ⟨s0, s1, s2, s3, s4, s5, s6, s7, s8, s9, s10, s11⟩
         go_simp
         with_reducible rfl
        rotate_left
        ·simp only [Act.put, List.setIfInBounds_toArray, List.set_cons_zero, List.set_cons_succ, i64_w, i32_w]
         rfl
        refine take_ (i := 7) (N := some 24) (v := ?_) (a' := ?_) #[true, true, true, true, true, true, true, true, false, false] rfl rfl (take_ofW HT_.out HW_.out (by kernel_rfl)) (fun _ _ _ h => h) (Or.inl ⟨by rfl, ?_⟩) hHeld ?_ ?_
        rotate_left
        ·rintro w' ⟨s0, s1, s2, s3, s4, s5, s6, s7, s8, s9, s10, s11⟩
         go_simp
         with_reducible rfl
        rotate_left
        ·simp only [Act.put, List.setIfInBounds_toArray, List.set_cons_zero, List.set_cons_succ, i64_w, i32_w]
         rfl
        refine one_ (i := 8) (N := some 25) #[true, true, true, true, true, true, true, true, true, false] rfl rfl (one_of HT_.out (by kernel_rfl)) (by decide) (fun K hK => ?_)
        refine goes_ Tryd.func52 (by kernel_rfl) rfl #[.agg #[.string ((rd_T72 l0 x5_1).f0), .int .i64 ((rd_T72 l0 x5_1).f1), .string ((rd_T72 l0 x5_1).f2), .string ((rd_T72 l0 x5_1).f3), .slice A235_4 ((rd_T72 l0 x5_1).f4).length c235_4, .string ((rd_T72 l0 x5_1).f5)], .agg #[.string ((rd_T72 l1 x5_1).f0), .int .i64 ((rd_T72 l1 x5_1).f1), .string ((rd_T72 l1 x5_1).f2), .string ((rd_T72 l1 x5_1).f3), .slice A236_4 ((rd_T72 l1 x5_1).f4).length c236_4, .string ((rd_T72 l1 x5_1).f5)]] (by rfl) rfl rfl (by (try simp only [List.map_toArray, List.map_cons, List.map_nil]); first | done | rfl | (simp only [List.length_drop, List.length_take]; rfl)) ?_
        with_reducible refine (laws_eqKey.calls k1 ((rd_T72 l0 x5_1).f0) ((rd_T72 l0 x5_1).f1) ((rd_T72 l0 x5_1).f2) ((rd_T72 l0 x5_1).f3) _ _ ((rd_T72 l0 x5_1).f4) ((rd_T72 l0 x5_1).f5) ((rd_T72 l1 x5_1).f0) ((rd_T72 l1 x5_1).f1) ((rd_T72 l1 x5_1).f2) ((rd_T72 l1 x5_1).f3) _ _ ((rd_T72 l1 x5_1).f4) ((rd_T72 l1 x5_1).f5) false _ ?side1 ?side2 ?side3 ?side4 A7.out).mono ?_
        (case side1 => repeat (first | exact (Kd.C_below HR235_4.out HB.out) | (with_reducible refine Kd.C_alloc ?_ _) | (with_reducible refine Kd.C_drewN ?_ _) | (with_reducible refine Kd.C_drew ?_)))
        (case side2 => exact HC235_4.out)
        (case side3 => repeat (first | exact (Kd.C_below HR236_4.out HB.out) | (with_reducible refine Kd.C_alloc ?_ _) | (with_reducible refine Kd.C_drewN ?_ _) | (with_reducible refine Kd.C_drew ?_)))
        (case side4 => exact HC236_4.out)
        rintro e w12 ⟨rfl, hb⟩
        refine ⟨_, rfl, ?_⟩
        have n0_ := Aside0.mk (below_step (by repeat (first | (with_reducible first | exact HB.out | apply below_alloc | apply pw_below_drewN | apply below_drew1) | exact HB.out)) hb)
        clear HB
        have HB := n0_
        clear n0_
        (try clear hb)
        (try clear hb2)
        (try clear hk)
        (try clear hi)
        refine hK.out _ _ ⟨((HB.out.cell (World.block_lt_of_cell? w _ hw235_0)).trans hw235_0), ((HB.out.cell (World.block_lt_of_cell? w _ hw235_1)).trans hw235_1), ((HB.out.cell (World.block_lt_of_cell? w _ hw235_2)).trans hw235_2), ((HB.out.cell (World.block_lt_of_cell? w _ hw235_3)).trans hw235_3), ((HB.out.cell (World.block_lt_of_cell? w _ hw235_4)).trans hw235_4), ((HB.out.cell (World.block_lt_of_cell? w _ hw235_5)).trans hw235_5), ((HB.out.cell (World.block_lt_of_cell? w _ hw236_0)).trans hw236_0), ((HB.out.cell (World.block_lt_of_cell? w _ hw236_1)).trans hw236_1), ((HB.out.cell (World.block_lt_of_cell? w _ hw236_2)).trans hw236_2), ((HB.out.cell (World.block_lt_of_cell? w _ hw236_3)).trans hw236_3), ((HB.out.cell (World.block_lt_of_cell? w _ hw236_4)).trans hw236_4), ((HB.out.cell (World.block_lt_of_cell? w _ hw236_5)).trans hw236_5)⟩ (fun hHeld => ?_)
        clear hK K
        refine norm_ (a' := ?_) ?_ ?_
        rotate_left
        ·show Act.put _ (some 25) _ = _
         simp only [Act.put, List.setIfInBounds_toArray, List.set_cons_zero, List.set_cons_succ, i64_w, i32_w]
         rfl
        refine pure_ (i := 9) (N := some 26) (v := ?_) (a' := ?_) #[true, true, true, true, true, true, true, true, true, true] rfl rfl (any_of HT_.out (by kernel_rfl)) (fun _ _ _ h => h) (Or.inl ⟨by rfl, ?_⟩) ?_ ?_
        rotate_left
        ·intro w'
         go_simp
         with_reducible rfl
        rotate_left
        ·simp only [Act.put, List.setIfInBounds_toArray, List.set_cons_zero, List.set_cons_succ, i64_w, i32_w]
         rfl
        refine done_ (done_of HT_.out (by kernel_rfl)) ?_
        try go_wp2
        go_ret
        exact ⟨by first | rfl | (simp [errW_none, errW_some] <;> rfl) | (simp [*, errW_none, errW_some] <;> rfl), by repeat (first | (with_reducible first | exact HB.out | apply below_alloc | apply pw_below_drewN | apply below_drew1) | exact HB.out)⟩
      ·rw [if_neg c6] at H
       exact absurd H (by simp)
     ·rw [if_neg c5] at H
      exact absurd H (by simp)
    ·rw [if_neg c4] at H
     have c4b0 : decide (x5_1 < (l0.length : Int)) = false := decide_eq_false c4
     clear c4
     obtain rfl := Option.some.inj H
     go_wp2
     go_ret
     exact ⟨by first | rfl | (simp [errW_none, errW_some] <;> rfl) | (simp [*, errW_none, errW_some] <;> rfl), by repeat (first | (with_reducible first | exact HB.out | apply below_alloc | apply pw_below_drewN | apply below_drew1) | exact HB.out)⟩
 ·rw [if_neg c3] at H
  have c3b0 : ((l0.length : Int) == (l1.length : Int)) = false := beq_eq_false_iff_ne.mpr c3
  have c3b1 : ((l0.length : Int) != (l1.length : Int)) = true := bne_iff_ne.mpr c3
  have c3b2 : (l0.length == l1.length) = false := by first | simpa using c3 | (simp at c3 ⊢; omega)
  obtain rfl := Option.some.inj H
  go_enter Tryd.func15, Tryd.ntmps15
  go_wp2
  go_ret
  exact ⟨by first | rfl | (simp [errW_none, errW_some] <;> rfl) | (simp [*, errW_none, errW_some] <;> rfl), by repeat (first | (with_reducible first | exact HB.out | apply below_alloc | apply pw_below_drewN | apply below_drew1) | exact HB.out)⟩

/-! ### laws_FnExactKeysOk: function 4 -/
def laws_FnExactKeysOk.f (k : Nat) (l0 : List (S71)) : Option (Bool) := (laws_szKeyS.f k l0 1048576).bind fun t238 => (if t238 < 0 then (some true) else ((laws_toKeyS.f k l0).bind fun t239 => ((spec_KeysOk.f k t239).bind fun t242 => ((laws_toKeyS.f k l0).bind fun t243 => ((impl_KeysOk.f k t243).bind fun t246 => (if (t246 != t242) = true then (some false) else ((laws_toKeyS.f k l0).bind fun t247 => ((laws_eqKeyS.f k t243 t247).bind fun t250 => (if t250 = true then (some true) else (some false))))))))))
set_option maxHeartbeats 8000000 in
set_option maxRecDepth 100000 in
theorem laws_FnExactKeysOk.calls (k : Nat) (A0 : Option Addr) (c0 : Nat) (l0 : List (S71)) (r : Bool) (w : World) (hT : Gl w) (hr0 : Kd.C k71 w A0 l0.length l0) (hc0 : l0.length ≤ c0) (h : laws_FnExactKeysOk.f k l0 = some r) :
  Calls Tryd.prog 4 #[.slice A0 l0.length c0] w fun e w' => e = .returned (.bool r) ∧ Below w.heap.size w w' := by
 have HR0 := Aside0.mk hr0
 have HC0 := Aside0.mk hc0
 clear hr0 hc0
 have HT := Aside0.mk hT
 clear hT
 have HB := Aside0.mk (Below.refl w.heap.size w)
 have H : ((laws_szKeyS.f k l0 1048576).bind fun t238 => (if t238 < 0 then (some true) else ((laws_toKeyS.f k l0).bind fun t239 => ((spec_KeysOk.f k t239).bind fun t242 => ((laws_toKeyS.f k l0).bind fun t243 => ((impl_KeysOk.f k t243).bind fun t246 => (if (t246 != t242) = true then (some false) else ((laws_toKeyS.f k l0).bind fun t247 => ((laws_eqKeyS.f k t243 t247).bind fun t250 => (if t250 = true then (some true) else (some false))))))))))) = some r := h
 clear h
 replace H := Option.bind_eq_some_iff.mp H
 obtain ⟨t238, A20, H⟩ := H
 replace H : (if t238 < 0 then (some true) else ((laws_toKeyS.f k l0).bind fun t239 => ((spec_KeysOk.f k t239).bind fun t242 => ((laws_toKeyS.f k l0).bind fun t243 => ((impl_KeysOk.f k t243).bind fun t246 => (if (t246 != t242) = true then (some false) else ((laws_toKeyS.f k l0).bind fun t247 => ((laws_eqKeyS.f k t243 t247).bind fun t250 => (if t250 = true then (some true) else (some false)))))))))) = some r := H
 have A2 := Aside0.mk A20
 clear A20
 by_cases c3 : t238 < 0
 ·rw [if_pos c3] at H
  have c3b0 : decide (t238 < 0) = true := decide_eq_true c3
  clear c3
  obtain rfl := Option.some.inj H
  go_enter Tryd.func4, Tryd.ntmps4
  go_wp2_with (first | ((with_reducible refine gate_callee (f := 11) rfl ?_); refine goesL_ (some 9) rfl rfl Tryd.func11 (by kernel_rfl) rfl #[.slice A0 l0.length c0, .int .i64 1048576] rfl (by (try simp only [List.map_toArray, List.map_cons, List.map_nil]); first | done | rfl | (simp only [List.length_drop, List.length_take]; rfl)) ?_; (with_reducible refine (laws_szKeyS.calls k _ _ l0 1048576 t238 _ ?side1 ?side2 A2.out).mono ?_); (case side1 => repeat (first | exact HR0.out | (with_reducible refine Kd.C_alloc ?_ _) | (with_reducible refine Kd.C_drewN ?_ _) | (with_reducible refine Kd.C_drew ?_))); (case side2 => exact HC0.out); rintro e w4 ⟨rfl, hb⟩; refine ⟨_, rfl, ?_⟩; have n0_ := Aside0.mk (below_step (by repeat (first | (with_reducible first | exact HB.out | apply below_alloc | apply pw_below_drewN | apply below_drew1) | exact HB.out)) hb); clear HB; have HB := n0_; clear n0_; (try clear hb); (try clear hb2); (try clear hk); (try clear hi)))
  go_ret
  exact ⟨by first | rfl | (simp [errW_none, errW_some] <;> rfl) | (simp [*, errW_none, errW_some] <;> rfl), by repeat (first | (with_reducible first | exact HB.out | apply below_alloc | apply pw_below_drewN | apply below_drew1) | exact HB.out)⟩
 ·rw [if_neg c3] at H
  have c3b0 : decide (t238 < 0) = false := decide_eq_false c3
  clear c3
  replace H := Option.bind_eq_some_iff.mp H
  obtain ⟨t239, A50, H⟩ := H
  replace H : ((spec_KeysOk.f k t239).bind fun t242 => ((laws_toKeyS.f k l0).bind fun t243 => ((impl_KeysOk.f k t243).bind fun t246 => (if (t246 != t242) = true then (some false) else ((laws_toKeyS.f k l0).bind fun t247 => ((laws_eqKeyS.f k t243 t247).bind fun t250 => (if t250 = true then (some true) else (some false)))))))) = some r := H
  have A5 := Aside0.mk A50
  clear A50
  replace H := Option.bind_eq_some_iff.mp H
  obtain ⟨t242, A60, H⟩ := H
  replace H : ((laws_toKeyS.f k l0).bind fun t243 => ((impl_KeysOk.f k t243).bind fun t246 => (if (t246 != t242) = true then (some false) else ((laws_toKeyS.f k l0).bind fun t247 => ((laws_eqKeyS.f k t243 t247).bind fun t250 => (if t250 = true then (some true) else (some false))))))) = some r := H
  have A6 := Aside0.mk A60
  clear A60
  replace H := Option.bind_eq_some_iff.mp H
  obtain ⟨t243, A70, H⟩ := H
  replace H : ((impl_KeysOk.f k t243).bind fun t246 => (if (t246 != t242) = true then (some false) else ((laws_toKeyS.f k l0).bind fun t247 => ((laws_eqKeyS.f k t243 t247).bind fun t250 => (if t250 = true then (some true) else (some false)))))) = some r := H
  have A7 := Aside0.mk A70
  clear A70
  replace H := Option.bind_eq_some_iff.mp H
  obtain ⟨t246, A80, H⟩ := H
  replace H : (if (t246 != t242) = true then (some false) else ((laws_toKeyS.f k l0).bind fun t247 => ((laws_eqKeyS.f k t243 t247).bind fun t250 => (if t250 = true then (some true) else (some false))))) = some r := H
  have A8 := Aside0.mk A80
  clear A80
  by_cases c9 : (t246 != t242) = true
  ·rw [if_pos c9] at H
   have c9b0 : (t246 != t242) = true := c9
   (try (have c9b1 : decide (t246 = t242) = false := by simpa using c9))
   (try (have c9b2 : (t246 == t242) = false := by simpa using c9))
   (try (have c9b3 : ¬ (t246 = t242) := by simpa using c9))
   clear c9
   obtain rfl := Option.some.inj H
   go_enter Tryd.func4, Tryd.ntmps4
   go_wp2_with (first | ((with_reducible refine gate_callee (f := 11) rfl ?_); refine goesL_ (some 9) rfl rfl Tryd.func11 (by kernel_rfl) rfl #[.slice A0 l0.length c0, .int .i64 1048576] rfl (by (try simp only [List.map_toArray, List.map_cons, List.map_nil]); first | done | rfl | (simp only [List.length_drop, List.length_take]; rfl)) ?_; (with_reducible refine (laws_szKeyS.calls k _ _ l0 1048576 t238 _ ?side1 ?side2 A2.out).mono ?_); (case side1 => repeat (first | exact HR0.out | (with_reducible refine Kd.C_alloc ?_ _) | (with_reducible refine Kd.C_drewN ?_ _) | (with_reducible refine Kd.C_drew ?_))); (case side2 => exact HC0.out); rintro e w10 ⟨rfl, hb⟩; refine ⟨_, rfl, ?_⟩; have n0_ := Aside0.mk (below_step (by repeat (first | (with_reducible first | exact HB.out | apply below_alloc | apply pw_below_drewN | apply below_drew1) | exact HB.out)) hb); clear HB; have HB := n0_; clear n0_; (try clear hb); (try clear hb2); (try clear hk); (try clear hi)) | ((with_reducible refine gate_callee (f := 13) rfl ?_); refine goesL_ (some 13) rfl rfl Tryd.func13 (by kernel_rfl) rfl #[.slice A0 l0.length c0] rfl (by (try simp only [List.map_toArray, List.map_cons, List.map_nil]); first | done | rfl | (simp only [List.length_drop, List.length_take]; rfl)) ?_; (with_reducible refine (laws_toKeyS.calls k _ _ l0 t239 _ ?side1 ?side2 A5.out).mono ?_); (case side1 => repeat (first | exact (Kd.C_below HR0.out HB.out) | (with_reducible refine Kd.C_alloc ?_ _) | (with_reducible refine Kd.C_drewN ?_ _) | (with_reducible refine Kd.C_drew ?_))); (case side2 => exact HC0.out); rintro e w11 ⟨v240, rfl, ho0, hb⟩; refine ⟨_, rfl, ?_⟩; have n0_ := Aside0.mk (Kd.S_lower ho0 (below_size (by repeat (first | (with_reducible first | exact HB.out | apply below_alloc | apply pw_below_drewN | apply below_drew1) | exact HB.out)))); have n1_ := Aside0.mk (below_step (by repeat (first | (with_reducible first | exact HB.out | apply below_alloc | apply pw_below_drewN | apply below_drew1) | exact HB.out)) hb); clear HB; have HO241 := n0_; have HB := n1_; clear n0_ n1_; (try clear hb); (try clear hb2); (try clear hk); (try clear hi); (try clear ho0); obtain ⟨Ao12, co12, eo12⟩ := Kd.S_slice HO241.out; subst eo12) | ((with_reducible refine gate_callee (f := 12) rfl ?_); refine goesL_ (some 14) rfl rfl Tryd.func12 (by kernel_rfl) rfl #[.slice Ao12 t239.length co12] rfl (by (try simp only [List.map_toArray, List.map_cons, List.map_nil]); first | done | rfl | (simp only [List.length_drop, List.length_take]; rfl)) ?_; (with_reducible refine (spec_KeysOk.calls k _ _ t239 t242 _ ?side1 ?side2 A6.out).mono ?_); (case side1 => repeat (first | exact (Kd.S_reads' HO241.out).2.2 | (with_reducible refine Kd.C_alloc ?_ _) | (with_reducible refine Kd.C_drewN ?_ _) | (with_reducible refine Kd.C_drew ?_))); (case side2 => exact (Kd.S_reads' HO241.out).2.1); rintro e w13 ⟨rfl, hb⟩; refine ⟨_, rfl, ?_⟩; have n0_ := Aside0.mk (Kd.S_below (by (with_reducible repeat (first | apply Kd.S_alloc | apply Kd.S_drewN | apply Kd.S_drew)); exact HO241.out) hb); have n1_ := Aside0.mk (below_step (by repeat (first | (with_reducible first | exact HB.out | apply below_alloc | apply pw_below_drewN | apply below_drew1) | exact HB.out)) hb); clear HO241; clear HB; have HO241 := n0_; have HB := n1_; clear n0_ n1_; (try clear hb); (try clear hb2); (try clear hk); (try clear hi)) | ((with_reducible refine gate_callee (f := 13) rfl ?_); refine goesL_ (some 16) rfl rfl Tryd.func13 (by kernel_rfl) rfl #[.slice A0 l0.length c0] rfl (by (try simp only [List.map_toArray, List.map_cons, List.map_nil]); first | done | rfl | (simp only [List.length_drop, List.length_take]; rfl)) ?_; (with_reducible refine (laws_toKeyS.calls k _ _ l0 t243 _ ?side1 ?side2 A7.out).mono ?_); (case side1 => repeat (first | exact (Kd.C_below HR0.out HB.out) | (with_reducible refine Kd.C_alloc ?_ _) | (with_reducible refine Kd.C_drewN ?_ _) | (with_reducible refine Kd.C_drew ?_))); (case side2 => exact HC0.out); rintro e w14 ⟨v244, rfl, ho0, hb⟩; refine ⟨_, rfl, ?_⟩; have n0_ := Aside0.mk (Kd.S_elder' (by (with_reducible repeat (first | apply Kd.S_alloc | apply Kd.S_drewN | apply Kd.S_drew)); exact HO241.out) (Kd.S_base ho0) hb); have n1_ := Aside0.mk (Kd.S_lower (Kd.S_new' ho0 (Kd.S_lt (by (with_reducible repeat (first | apply Kd.S_alloc | apply Kd.S_drewN | apply Kd.S_drew)); exact HO241.out))) (below_size (by repeat (first | (with_reducible first | exact HB.out | apply below_alloc | apply pw_below_drewN | apply below_drew1) | exact HB.out)))); have n2_ := Aside0.mk (below_step (by repeat (first | (with_reducible first | exact HB.out | apply below_alloc | apply pw_below_drewN | apply below_drew1) | exact HB.out)) hb); clear HO241; clear HB; have HO241 := n0_; have HO245 := n1_; have HB := n2_; clear n0_ n1_ n2_; (try clear hb); (try clear hb2); (try clear hk); (try clear hi); (try clear ho0); obtain ⟨Ao15, co15, eo15⟩ := Kd.S_slice HO245.out; subst eo15) | ((with_reducible refine gate_callee (f := 14) rfl ?_); refine goesL_ (some 18) rfl rfl Tryd.func14 (by kernel_rfl) rfl #[.slice Ao15 t243.length co15] rfl (by (try simp only [List.map_toArray, List.map_cons, List.map_nil]); first | done | rfl | (simp only [List.length_drop, List.length_take]; rfl)) ?_; (with_reducible refine (impl_KeysOk.calls k _ _ t243 t246 _ ?side3 ?side1 ?side2 A8.out).mono ?_); (case side1 => repeat (first | exact (Kd.S_reads' HO245.out).2.2 | (with_reducible refine Kd.C_alloc ?_ _) | (with_reducible refine Kd.C_drewN ?_ _) | (with_reducible refine Kd.C_drew ?_))); (case side2 => exact (Kd.S_reads' HO245.out).2.1); (case side3 => exact Gl_below HT.out (by repeat (first | (with_reducible first | exact HB.out | apply below_alloc | apply pw_below_drewN | apply below_drew1) | exact HB.out))); rintro e w16 ⟨rfl, hb⟩; refine ⟨_, rfl, ?_⟩; have n0_ := Aside0.mk (Kd.S_below (by (with_reducible repeat (first | apply Kd.S_alloc | apply Kd.S_drewN | apply Kd.S_drew)); exact HO241.out) hb); have n1_ := Aside0.mk (Kd.S_below (by (with_reducible repeat (first | apply Kd.S_alloc | apply Kd.S_drewN | apply Kd.S_drew)); exact HO245.out) hb); have n2_ := Aside0.mk (below_step (by repeat (first | (with_reducible first | exact HB.out | apply below_alloc | apply pw_below_drewN | apply below_drew1) | exact HB.out)) hb); clear HO241; clear HO245; clear HB; have HO241 := n0_; have HO245 := n1_; have HB := n2_; clear n0_ n1_ n2_; (try clear hb); (try clear hb2); (try clear hk); (try clear hi)))
   go_ret
   exact ⟨by first | rfl | (simp [errW_none, errW_some] <;> rfl) | (simp [*, errW_none, errW_some] <;> rfl), by repeat (first | (with_reducible first | exact HB.out | apply below_alloc | apply pw_below_drewN | apply below_drew1) | exact HB.out)⟩
  ·rw [if_neg c9] at H
   have c9b0 : (t246 != t242) = false := by simpa using c9
   (try (have c9b1 : decide (t246 = t242) = true := by simpa using c9))
   (try (have c9b2 : (t246 == t242) = true := by simpa using c9))
   clear c9
   replace H := Option.bind_eq_some_iff.mp H
   obtain ⟨t247, A170, H⟩ := H
   replace H : ((laws_eqKeyS.f k t243 t247).bind fun t250 => (if t250 = true then (some true) else (some false))) = some r := H
   have A17 := Aside0.mk A170
   clear A170
   replace H := Option.bind_eq_some_iff.mp H
   obtain ⟨t250, A180, H⟩ := H
   replace H : (if t250 = true then (some true) else (some false)) = some r := H
   have A18 := Aside0.mk A180
   clear A180
   by_cases c19 : t250 = true
   ·subst c19
    have H1 : (some true) = some r := by rw [if_pos rfl] at H; exact H
    clear H
    have H := H1
    clear H1
    obtain rfl := Option.some.inj H
    go_enter Tryd.func4, Tryd.ntmps4
    go_wp2_with (first | ((with_reducible refine gate_callee (f := 11) rfl ?_); refine goesL_ (some 9) rfl rfl Tryd.func11 (by kernel_rfl) rfl #[.slice A0 l0.length c0, .int .i64 1048576] rfl (by (try simp only [List.map_toArray, List.map_cons, List.map_nil]); first | done | rfl | (simp only [List.length_drop, List.length_take]; rfl)) ?_; (with_reducible refine (laws_szKeyS.calls k _ _ l0 1048576 t238 _ ?side1 ?side2 A2.out).mono ?_); (case side1 => repeat (first | exact HR0.out | (with_reducible refine Kd.C_alloc ?_ _) | (with_reducible refine Kd.C_drewN ?_ _) | (with_reducible refine Kd.C_drew ?_))); (case side2 => exact HC0.out); rintro e w20 ⟨rfl, hb⟩; refine ⟨_, rfl, ?_⟩; have n0_ := Aside0.mk (below_step (by repeat (first | (with_reducible first | exact HB.out | apply below_alloc | apply pw_below_drewN | apply below_drew1) | exact HB.out)) hb); clear HB; have HB := n0_; clear n0_; (try clear hb); (try clear hb2); (try clear hk); (try clear hi)) | ((with_reducible refine gate_callee (f := 13) rfl ?_); refine goesL_ (some 13) rfl rfl Tryd.func13 (by kernel_rfl) rfl #[.slice A0 l0.length c0] rfl (by (try simp only [List.map_toArray, List.map_cons, List.map_nil]); first | done | rfl | (simp only [List.length_drop, List.length_take]; rfl)) ?_; (with_reducible refine (laws_toKeyS.calls k _ _ l0 t239 _ ?side1 ?side2 A5.out).mono ?_); (case side1 => repeat (first | exact (Kd.C_below HR0.out HB.out) | (with_reducible refine Kd.C_alloc ?_ _) | (with_reducible refine Kd.C_drewN ?_ _) | (with_reducible refine Kd.C_drew ?_))); (case side2 => exact HC0.out); rintro e w21 ⟨v240, rfl, ho0, hb⟩; refine ⟨_, rfl, ?_⟩; have n0_ := Aside0.mk (Kd.S_lower ho0 (below_size (by repeat (first | (with_reducible first | exact HB.out | apply below_alloc | apply pw_below_drewN | apply below_drew1) | exact HB.out)))); have n1_ := Aside0.mk (below_step (by repeat (first | (with_reducible first | exact HB.out | apply below_alloc | apply pw_below_drewN | apply below_drew1) | exact HB.out)) hb); clear HB; have HO241 := n0_; have HB := n1_; clear n0_ n1_; (try clear hb); (try clear hb2); (try clear hk); (try clear hi); (try clear ho0); obtain ⟨Ao22, co22, eo22⟩ := Kd.S_slice HO241.out; subst eo22) | ((with_reducible refine gate_callee (f := 12) rfl ?_); refine goesL_ (some 14) rfl rfl Tryd.func12 (by kernel_rfl) rfl #[.slice Ao22 t239.length co22] rfl (by (try simp only [List.map_toArray, List.map_cons, List.map_nil]); first | done | rfl | (simp only [List.length_drop, List.length_take]; rfl)) ?_; (with_reducible refine (spec_KeysOk.calls k _ _ t239 t242 _ ?side1 ?side2 A6.out).mono ?_); (case side1 => repeat (first | exact (Kd.S_reads' HO241.out).2.2 | (with_reducible refine Kd.C_alloc ?_ _) | (with_reducible refine Kd.C_drewN ?_ _) | (with_reducible refine Kd.C_drew ?_))); (case side2 => exact (Kd.S_reads' HO241.out).2.1); rintro e w23 ⟨rfl, hb⟩; refine ⟨_, rfl, ?_⟩; have n0_ := Aside0.mk (Kd.S_below (by (with_reducible repeat (first | apply Kd.S_alloc | apply Kd.S_drewN | apply Kd.S_drew)); exact HO241.out) hb); have n1_ := Aside0.mk (below_step (by repeat (first | (with_reducible first | exact HB.out | apply below_alloc | apply pw_below_drewN | apply below_drew1) | exact HB.out)) hb); clear HO241; clear HB; have HO241 := n0_; have HB := n1_; clear n0_ n1_; (try clear hb); (try clear hb2); (try clear hk); (try clear hi)) | ((with_reducible refine gate_callee (f := 13) rfl ?_); refine goesL_ (some 16) rfl rfl Tryd.func13 (by kernel_rfl) rfl #[.slice A0 l0.length c0] rfl (by (try simp only [List.map_toArray, List.map_cons, List.map_nil]); first | done | rfl | (simp only [List.length_drop, List.length_take]; rfl)) ?_; (with_reducible refine (laws_toKeyS.calls k _ _ l0 t243 _ ?side1 ?side2 A7.out).mono ?_); (case side1 => repeat (first | exact (Kd.C_below HR0.out HB.out) | (with_reducible refine Kd.C_alloc ?_ _) | (with_reducible refine Kd.C_drewN ?_ _) | (with_reducible refine Kd.C_drew ?_))); (case side2 => exact HC0.out); rintro e w24 ⟨v244, rfl, ho0, hb⟩; refine ⟨_, rfl, ?_⟩; have n0_ := Aside0.mk (Kd.S_elder' (by (with_reducible repeat (first | apply Kd.S_alloc | apply Kd.S_drewN | apply Kd.S_drew)); exact HO241.out) (Kd.S_base ho0) hb); have n1_ := Aside0.mk (Kd.S_lower (Kd.S_new' ho0 (Kd.S_lt (by (with_reducible repeat (first | apply Kd.S_alloc | apply Kd.S_drewN | apply Kd.S_drew)); exact HO241.out))) (below_size (by repeat (first | (with_reducible first | exact HB.out | apply below_alloc | apply pw_below_drewN | apply below_drew1) | exact HB.out)))); have n2_ := Aside0.mk (below_step (by repeat (first | (with_reducible first | exact HB.out | apply below_alloc | apply pw_below_drewN | apply below_drew1) | exact HB.out)) hb); clear HO241; clear HB; have HO241 := n0_; have HO245 := n1_; have HB := n2_; clear n0_ n1_ n2_; (try clear hb); (try clear hb2); (try clear hk); (try clear hi); (try clear ho0); obtain ⟨Ao25, co25, eo25⟩ := Kd.S_slice HO245.out; subst eo25) | ((with_reducible refine gate_callee (f := 14) rfl ?_); refine goesL_ (some 18) rfl rfl Tryd.func14 (by kernel_rfl) rfl #[.slice Ao25 t243.length co25] rfl (by (try simp only [List.map_toArray, List.map_cons, List.map_nil]); first | done | rfl | (simp only [List.length_drop, List.length_take]; rfl)) ?_; (with_reducible refine (impl_KeysOk.calls k _ _ t243 t246 _ ?side3 ?side1 ?side2 A8.out).mono ?_); (case side1 => repeat (first | exact (Kd.S_reads' HO245.out).2.2 | (with_reducible refine Kd.C_alloc ?_ _) | (with_reducible refine Kd.C_drewN ?_ _) | (with_reducible refine Kd.C_drew ?_))); (case side2 => exact (Kd.S_reads' HO245.out).2.1); (case side3 => exact Gl_below HT.out (by repeat (first | (with_reducible first | exact HB.out | apply below_alloc | apply pw_below_drewN | apply below_drew1) | exact HB.out))); rintro e w26 ⟨rfl, hb⟩; refine ⟨_, rfl, ?_⟩; have n0_ := Aside0.mk (Kd.S_below (by (with_reducible repeat (first | apply Kd.S_alloc | apply Kd.S_drewN | apply Kd.S_drew)); exact HO241.out) hb); have n1_ := Aside0.mk (Kd.S_below (by (with_reducible repeat (first | apply Kd.S_alloc | apply Kd.S_drewN | apply Kd.S_drew)); exact HO245.out) hb); have n2_ := Aside0.mk (below_step (by repeat (first | (with_reducible first | exact HB.out | apply below_alloc | apply pw_below_drewN | apply below_drew1) | exact HB.out)) hb); clear HO241; clear HO245; clear HB; have HO241 := n0_; have HO245 := n1_; have HB := n2_; clear n0_ n1_ n2_; (try clear hb); (try clear hb2); (try clear hk); (try clear hi)) | ((with_reducible refine gate_callee (f := 13) rfl ?_); refine goesL_ (some 24) rfl rfl Tryd.func13 (by kernel_rfl) rfl #[.slice A0 l0.length c0] rfl (by (try simp only [List.map_toArray, List.map_cons, List.map_nil]); first | done | rfl | (simp only [List.length_drop, List.length_take]; rfl)) ?_; (with_reducible refine (laws_toKeyS.calls k _ _ l0 t247 _ ?side1 ?side2 A17.out).mono ?_); (case side1 => repeat (first | exact (Kd.C_below HR0.out HB.out) | (with_reducible refine Kd.C_alloc ?_ _) | (with_reducible refine Kd.C_drewN ?_ _) | (with_reducible refine Kd.C_drew ?_))); (case side2 => exact HC0.out); rintro e w27 ⟨v248, rfl, ho0, hb⟩; refine ⟨_, rfl, ?_⟩; have n0_ := Aside0.mk (Kd.S_elder' (by (with_reducible repeat (first | apply Kd.S_alloc | apply Kd.S_drewN | apply Kd.S_drew)); exact HO241.out) (Kd.S_base ho0) hb); have n1_ := Aside0.mk (Kd.S_elder' (by (with_reducible repeat (first | apply Kd.S_alloc | apply Kd.S_drewN | apply Kd.S_drew)); exact HO245.out) (Kd.S_base ho0) hb); have n2_ := Aside0.mk (Kd.S_lower (Kd.S_new' (Kd.S_new' ho0 (Kd.S_lt (by (with_reducible repeat (first | apply Kd.S_alloc | apply Kd.S_drewN | apply Kd.S_drew)); exact HO241.out))) (Kd.S_lt (by (with_reducible repeat (first | apply Kd.S_alloc | apply Kd.S_drewN | apply Kd.S_drew)); exact HO245.out))) (below_size (by repeat (first | (with_reducible first | exact HB.out | apply below_alloc | apply pw_below_drewN | apply below_drew1) | exact HB.out)))); have n3_ := Aside0.mk (below_step (by repeat (first | (with_reducible first | exact HB.out | apply below_alloc | apply pw_below_drewN | apply below_drew1) | exact HB.out)) hb); clear HO241; clear HO245; clear HB; have HO241 := n0_; have HO245 := n1_; have HO249 := n2_; have HB := n3_; clear n0_ n1_ n2_ n3_; (try clear hb); (try clear hb2); (try clear hk); (try clear hi); (try clear ho0); obtain ⟨Ao28, co28, eo28⟩ := Kd.S_slice HO249.out; subst eo28) | ((with_reducible refine gate_callee (f := 15) rfl ?_); refine goesL_ (some 25) rfl rfl Tryd.func15 (by kernel_rfl) rfl #[.slice Ao25 t243.length co25, .slice Ao28 t247.length co28] rfl (by (try simp only [List.map_toArray, List.map_cons, List.map_nil]); first | done | rfl | (simp only [List.length_drop, List.length_take]; rfl)) ?_; (with_reducible refine (laws_eqKeyS.calls k _ _ t243 _ _ t247 true _ ?side1 ?side2 ?side3 ?side4 A18.out).mono ?_); (case side1 => repeat (first | exact (Kd.S_reads' HO245.out).2.2 | (with_reducible refine Kd.C_alloc ?_ _) | (with_reducible refine Kd.C_drewN ?_ _) | (with_reducible refine Kd.C_drew ?_))); (case side2 => exact (Kd.S_reads' HO245.out).2.1); (case side3 => repeat (first | exact (Kd.S_reads' HO249.out).2.2 | (with_reducible refine Kd.C_alloc ?_ _) | (with_reducible refine Kd.C_drewN ?_ _) | (with_reducible refine Kd.C_drew ?_))); (case side4 => exact (Kd.S_reads' HO249.out).2.1); rintro e w29 ⟨rfl, hb⟩; refine ⟨_, rfl, ?_⟩; have n0_ := Aside0.mk (Kd.S_below (by (with_reducible repeat (first | apply Kd.S_alloc | apply Kd.S_drewN | apply Kd.S_drew)); exact HO241.out) hb); have n1_ := Aside0.mk (Kd.S_below (by (with_reducible repeat (first | apply Kd.S_alloc | apply Kd.S_drewN | apply Kd.S_drew)); exact HO245.out) hb); have n2_ := Aside0.mk (Kd.S_below (by (with_reducible repeat (first | apply Kd.S_alloc | apply Kd.S_drewN | apply Kd.S_drew)); exact HO249.out) hb); have n3_ := Aside0.mk (below_step (by repeat (first | (with_reducible first | exact HB.out | apply below_alloc | apply pw_below_drewN | apply below_drew1) | exact HB.out)) hb); clear HO241; clear HO245; clear HO249; clear HB; have HO241 := n0_; have HO245 := n1_; have HO249 := n2_; have HB := n3_; clear n0_ n1_ n2_ n3_; (try clear hb); (try clear hb2); (try clear hk); (try clear hi)))
    go_ret
    exact ⟨by first | rfl | (simp [errW_none, errW_some] <;> rfl) | (simp [*, errW_none, errW_some] <;> rfl), by repeat (first | (with_reducible first | exact HB.out | apply below_alloc | apply pw_below_drewN | apply below_drew1) | exact HB.out)⟩
   ·replace c19 := Bool.eq_false_iff.mpr c19
    subst c19
    have H1 : (some false) = some r := by rw [if_neg (show ¬ (false = true) by decide)] at H; exact H
    clear H
    have H := H1
    clear H1
    obtain rfl := Option.some.inj H
    go_enter Tryd.func4, Tryd.ntmps4
    go_wp2_with (first | ((with_reducible refine gate_callee (f := 11) rfl ?_); refine goesL_ (some 9) rfl rfl Tryd.func11 (by kernel_rfl) rfl #[.slice A0 l0.length c0, .int .i64 1048576] rfl (by (try simp only [List.map_toArray, List.map_cons, List.map_nil]); first | done | rfl | (simp only [List.length_drop, List.length_take]; rfl)) ?_; (with_reducible refine (laws_szKeyS.calls k _ _ l0 1048576 t238 _ ?side1 ?side2 A2.out).mono ?_); (case side1 => repeat (first | exact HR0.out | (with_reducible refine Kd.C_alloc ?_ _) | (with_reducible refine Kd.C_drewN ?_ _) | (with_reducible refine Kd.C_drew ?_))); (case side2 => exact HC0.out); rintro e w30 ⟨rfl, hb⟩; refine ⟨_, rfl, ?_⟩; have n0_ := Aside0.mk (below_step (by repeat (first | (with_reducible first | exact HB.out | apply below_alloc | apply pw_below_drewN | apply below_drew1) | exact HB.out)) hb); clear HB; have HB := n0_; clear n0_; (try clear hb); (try clear hb2); (try clear hk); (try clear hi)) | ((with_reducible refine gate_callee (f := 13) rfl ?_); refine goesL_ (some 13) rfl rfl Tryd.func13 (by kernel_rfl) rfl #[.slice A0 l0.length c0] rfl (by (try simp only [List.map_toArray, List.map_cons, List.map_nil]); first | done | rfl | (simp only [List.length_drop, List.length_take]; rfl)) ?_; (with_reducible refine (laws_toKeyS.calls k _ _ l0 t239 _ ?side1 ?side2 A5.out).mono ?_); (case side1 => repeat (first | exact (Kd.C_below HR0.out HB.out) | (with_reducible refine Kd.C_alloc ?_ _) | (with_reducible refine Kd.C_drewN ?_ _) | (with_reducible refine Kd.C_drew ?_))); (case side2 => exact HC0.out); rintro e w31 ⟨v240, rfl, ho0, hb⟩; refine ⟨_, rfl, ?_⟩; have n0_ := Aside0.mk (Kd.S_lower ho0 (below_size (by repeat (first | (with_reducible first | exact HB.out | apply below_alloc | apply pw_below_drewN | apply below_drew1) | exact HB.out)))); have n1_ := Aside0.mk (below_step (by repeat (first | (with_reducible first | exact HB.out | apply below_alloc | apply pw_below_drewN | apply below_drew1) | exact HB.out)) hb); clear HB; have HO241 := n0_; have HB := n1_; clear n0_ n1_; (try clear hb); (try clear hb2); (try clear hk); (try clear hi); (try clear ho0); obtain ⟨Ao32, co32, eo32⟩ := Kd.S_slice HO241.out; subst eo32) | ((with_reducible refine gate_callee (f := 12) rfl ?_); refine goesL_ (some 14) rfl rfl Tryd.func12 (by kernel_rfl) rfl #[.slice Ao32 t239.length co32] rfl (by (try simp only [List.map_toArray, List.map_cons, List.map_nil]); first | done | rfl | (simp only [List.length_drop, List.length_take]; rfl)) ?_; (with_reducible refine (spec_KeysOk.calls k _ _ t239 t242 _ ?side1 ?side2 A6.out).mono ?_); (case side1 => repeat (first | exact (Kd.S_reads' HO241.out).2.2 | (with_reducible refine Kd.C_alloc ?_ _) | (with_reducible refine Kd.C_drewN ?_ _) | (with_reducible refine Kd.C_drew ?_))); (case side2 => exact (Kd.S_reads' HO241.out).2.1); rintro e w33 ⟨rfl, hb⟩; refine ⟨_, rfl, ?_⟩; have n0_ := Aside0.mk (Kd.S_below (by (with_reducible repeat (first | apply Kd.S_alloc | apply Kd.S_drewN | apply Kd.S_drew)); exact HO241.out) hb); have n1_ := Aside0.mk (below_step (by repeat (first | (with_reducible first | exact HB.out | apply below_alloc | apply pw_below_drewN | apply below_drew1) | exact HB.out)) hb); clear HO241; clear HB; have HO241 := n0_; have HB := n1_; clear n0_ n1_; (try clear hb); (try clear hb2); (try clear hk); (try clear hi)) | ((with_reducible refine gate_callee (f := 13) rfl ?_); refine goesL_ (some 16) rfl rfl Tryd.func13 (by kernel_rfl) rfl #[.slice A0 l0.length c0] rfl (by (try simp only [List.map_toArray, List.map_cons, List.map_nil]); first | done | rfl | (simp only [List.length_drop, List.length_take]; rfl)) ?_; (with_reducible refine (laws_toKeyS.calls k _ _ l0 t243 _ ?side1 ?side2 A7.out).mono ?_); (case side1 => repeat (first | exact (Kd.C_below HR0.out HB.out) | (with_reducible refine Kd.C_alloc ?_ _) | (with_reducible refine Kd.C_drewN ?_ _) | (with_reducible refine Kd.C_drew ?_))); (case side2 => exact HC0.out); rintro e w34 ⟨v244, rfl, ho0, hb⟩; refine ⟨_, rfl, ?_⟩; have n0_ := Aside0.mk (Kd.S_elder' (by (with_reducible repeat (first | apply Kd.S_alloc | apply Kd.S_drewN | apply Kd.S_drew)); exact HO241.out) (Kd.S_base ho0) hb); have n1_ := Aside0.mk (Kd.S_lower (Kd.S_new' ho0 (Kd.S_lt (by (with_reducible repeat (first | apply Kd.S_alloc | apply Kd.S_drewN | apply Kd.S_drew)); exact HO241.out))) (below_size (by repeat (first | (with_reducible first | exact HB.out | apply below_alloc | apply pw_below_drewN | apply below_drew1) | exact HB.out)))); have n2_ := Aside0.mk (below_step (by repeat (first | (with_reducible first | exact HB.out | apply below_alloc | apply pw_below_drewN | apply below_drew1) | exact HB.out)) hb); clear HO241; clear HB; have HO241 := n0_; have HO245 := n1_; have HB := n2_; clear n0_ n1_ n2_; (try clear hb); (try clear hb2); (try clear hk); (try clear hi); (try clear ho0); obtain ⟨Ao35, co35, eo35⟩ := Kd.S_slice HO245.out; subst eo35) | ((with_reducible refine gate_callee (f := 14) rfl ?_); refine goesL_ (some 18) rfl rfl Tryd.func14 (by kernel_rfl) rfl #[.slice Ao35 t243.length co35] rfl (by (try simp only [List.map_toArray, List.map_cons, List.map_nil]); first | done | rfl | (simp only [List.length_drop, List.length_take]; rfl)) ?_; (with_reducible refine (impl_KeysOk.calls k _ _ t243 t246 _ ?side3 ?side1 ?side2 A8.out).mono ?_); (case side1 => repeat (first | exact (Kd.S_reads' HO245.out).2.2 | (with_reducible refine Kd.C_alloc ?_ _) | (with_reducible refine Kd.C_drewN ?_ _) | (with_reducible refine Kd.C_drew ?_))); (case side2 => exact (Kd.S_reads' HO245.out).2.1); (case side3 => exact Gl_below HT.out (by repeat (first | (with_reducible first | exact HB.out | apply below_alloc | apply pw_below_drewN | apply below_drew1) | exact HB.out))); rintro e w36 ⟨rfl, hb⟩; refine ⟨_, rfl, ?_⟩; have n0_ := Aside0.mk (Kd.S_below (by (with_reducible repeat (first | apply Kd.S_alloc | apply Kd.S_drewN | apply Kd.S_drew)); exact HO241.out) hb); have n1_ := Aside0.mk (Kd.S_below (by (with_reducible repeat (first | apply Kd.S_alloc | apply Kd.S_drewN | apply Kd.S_drew)); exact HO245.out) hb); have n2_ := Aside0.mk (below_step (by repeat (first | (with_reducible first | exact HB.out | apply below_alloc | apply pw_below_drewN | apply below_drew1) | exact HB.out)) hb); clear HO241; clear HO245; clear HB; have HO241 := n0_; have HO245 := n1_; have HB := n2_; clear n0_ n1_ n2_; (try clear hb); (try clear hb2); (try clear hk); (try clear hi)) | ((with_reducible refine gate_callee (f := 13) rfl ?_); refine goesL_ (some 24) rfl rfl Tryd.func13 (by kernel_rfl) rfl #[.slice A0 l0.length c0] rfl (by (try simp only [List.map_toArray, List.map_cons, List.map_nil]); first | done | rfl | (simp only [List.length_drop, List.length_take]; rfl)) ?_; (with_reducible refine (laws_toKeyS.calls k _ _ l0 t247 _ ?side1 ?side2 A17.out).mono ?_); (case side1 => repeat (first | exact (Kd.C_below HR0.out HB.out) | (with_reducible refine Kd.C_alloc ?_ _) | (with_reducible refine Kd.C_drewN ?_ _) | (with_reducible refine Kd.C_drew ?_))); (case side2 => exact HC0.out); rintro e w37 ⟨v248, rfl, ho0, hb⟩; refine ⟨_, rfl, ?_⟩; have n0_ := Aside0.mk (Kd.S_elder' (by (with_reducible repeat (first | apply Kd.S_alloc | apply Kd.S_drewN | apply Kd.S_drew)); exact HO241.out) (Kd.S_base ho0) hb); have n1_ := Aside0.mk (Kd.S_elder' (by (with_reducible repeat (first | apply Kd.S_alloc | apply Kd.S_drewN | apply Kd.S_drew)); exact HO245.out) (Kd.S_base ho0) hb); have n2_ := Aside0.mk (Kd.S_lower (Kd.S_new' (Kd.S_new' ho0 (Kd.S_lt (by (with_reducible repeat (first | apply Kd.S_alloc | apply Kd.S_drewN | apply Kd.S_drew)); exact HO241.out))) (Kd.S_lt (by (with_reducible repeat (first | apply Kd.S_alloc | apply Kd.S_drewN | apply Kd.S_drew)); exact HO245.out))) (below_size (by repeat (first | (with_reducible first | exact HB.out | apply below_alloc | apply pw_below_drewN | apply below_drew1) | exact HB.out)))); have n3_ := Aside0.mk (below_step (by repeat (first | (with_reducible first | exact HB.out | apply below_alloc | apply pw_below_drewN | apply below_drew1) | exact HB.out)) hb); clear HO241; clear HO245; clear HB; have HO241 := n0_; have HO245 := n1_; have HO249 := n2_; have HB := n3_; clear n0_ n1_ n2_ n3_; (try clear hb); (try clear hb2); (try clear hk); (try clear hi); (try clear ho0); obtain ⟨Ao38, co38, eo38⟩ := Kd.S_slice HO249.out; subst eo38) | ((with_reducible refine gate_callee (f := 15) rfl ?_); refine goesL_ (some 25) rfl rfl Tryd.func15 (by kernel_rfl) rfl #[.slice Ao35 t243.length co35, .slice Ao38 t247.length co38] rfl (by (try simp only [List.map_toArray, List.map_cons, List.map_nil]); first | done | rfl | (simp only [List.length_drop, List.length_take]; rfl)) ?_; (with_reducible refine (laws_eqKeyS.calls k _ _ t243 _ _ t247 false _ ?side1 ?side2 ?side3 ?side4 A18.out).mono ?_); (case side1 => repeat (first | exact (Kd.S_reads' HO245.out).2.2 | (with_reducible refine Kd.C_alloc ?_ _) | (with_reducible refine Kd.C_drewN ?_ _) | (with_reducible refine Kd.C_drew ?_))); (case side2 => exact (Kd.S_reads' HO245.out).2.1); (case side3 => repeat (first | exact (Kd.S_reads' HO249.out).2.2 | (with_reducible refine Kd.C_alloc ?_ _) | (with_reducible refine Kd.C_drewN ?_ _) | (with_reducible refine Kd.C_drew ?_))); (case side4 => exact (Kd.S_reads' HO249.out).2.1); rintro e w39 ⟨rfl, hb⟩; refine ⟨_, rfl, ?_⟩; have n0_ := Aside0.mk (Kd.S_below (by (with_reducible repeat (first | apply Kd.S_alloc | apply Kd.S_drewN | apply Kd.S_drew)); exact HO241.out) hb); have n1_ := Aside0.mk (Kd.S_below (by (with_reducible repeat (first | apply Kd.S_alloc | apply Kd.S_drewN | apply Kd.S_drew)); exact HO245.out) hb); have n2_ := Aside0.mk (Kd.S_below (by (with_reducible repeat (first | apply Kd.S_alloc | apply Kd.S_drewN | apply Kd.S_drew)); exact HO249.out) hb); have n3_ := Aside0.mk (below_step (by repeat (first | (with_reducible first | exact HB.out | apply below_alloc | apply pw_below_drewN | apply below_drew1) | exact HB.out)) hb); clear HO241; clear HO245; clear HO249; clear HB; have HO241 := n0_; have HO245 := n1_; have HO249 := n2_; have HB := n3_; clear n0_ n1_ n2_ n3_; (try clear hb); (try clear hb2); (try clear hk); (try clear hi)))
    go_ret
    exact ⟨by first | rfl | (simp [errW_none, errW_some] <;> rfl) | (simp [*, errW_none, errW_some] <;> rfl), by repeat (first | (with_reducible first | exact HB.out | apply below_alloc | apply pw_below_drewN | apply below_drew1) | exact HB.out)⟩

end Go.Proofs.YtdicaljeegaieaaDoor.L

namespace Go.Proofs.YtdicaljeegaieaaDoor.Pure
open Go.RowKit Go.Proofs.YtdicaljeegaieaaDoor.L Go.Proofs.YtdicaljeegaieaaDoorW.PrintWords Go.Proofs.YtdicaljeegaieaaDoorW.PrintLast Go.Proofs.YtdicaljeegaieaaDoorW.PrintMore
set_option linter.unusedVariables false
set_option linter.unusedSimpArgs false

theorem ba_ext {a b : ByteArray} (h : a.data.toList = b.data.toList) : a = b := by
  cases a; cases b; simp only [ByteArray.mk.injEq]; exact Array.toList_inj.mp h
theorem ba_app (a b : ByteArray) : (a ++ b).data.toList = a.data.toList ++ b.data.toList := by
  rw [ByteArray.data_append, Array.toList_append]
theorem sz (a : ByteArray) : a.size = a.data.toList.length := (data_length a).symm
theorem w64 {n : Int} (h : -9223372036854775808 ≤ n) (h' : n ≤ 9223372036854775807) : wrap64 n = n := by unfold wrap64; omega
theorem bt_nat (s : ByteArray) (i : Nat) (h : i < s.data.toList.length) : bt s (i : Int) = ((s.data.toList[i]).toNat : Int) := by
  have h' : i < s.size := by rw [sz]; exact h
  unfold bt
  rw [dif_pos (by simpa using h')]
  simp only [Int.toNat_natCast]
  rfl
theorem first_bt (s : ByteArray) (b : UInt8) (l : List UInt8) (h : s.data.toList = b :: l) : bt s 0 = (b.toNat : Int) := by
  have := bt_nat s 0 (by rw [h]; simp)
  simp only [h, Int.ofNat_zero, List.getElem_cons_zero] at this
  simpa using this
def mkB (l : List UInt8) : ByteArray := ⟨l.toArray⟩
theorem mkB_list (l : List UInt8) : (mkB l).data.toList = l := by simp [mkB]
theorem mkB_of (s : ByteArray) : mkB s.data.toList = s := ba_ext (mkB_list _)
theorem byte_is (b : UInt8) (n : Nat) (hn : n < 256) : ((b.toNat : Int) = (n : Int)) ↔ b = UInt8.ofNat n := by
  constructor
  · intro h
    apply UInt8.toNat.inj
    rw [UInt8.toNat_ofNat']
    omega
  · intro h; subst h; rw [UInt8.toNat_ofNat']; omega
/-- The pieces of a row of bytes between strokes, the first one behind what was gathered. -/
def segs : List UInt8 → List UInt8 → List (List UInt8)
  | acc, [] => [acc]
  | acc, b :: t => if b = 47 then acc :: segs [] t else segs (acc ++ [b]) t
theorem segs_miss : ∀ (l acc : List UInt8), (∀ k : Nat, l[k]? ≠ some 47) → segs acc l = [acc ++ l]
  | [], acc, _ => by simp [segs]
  | b :: t, acc, h => by
    have hb : b ≠ 47 := fun e => h 0 (by simp [e])
    have ht : ∀ k : Nat, t[k]? ≠ some 47 := fun k => by simpa using h (k + 1)
    unfold segs
    rw [if_neg hb, segs_miss t (acc ++ [b]) ht]
    simp
theorem segs_hit : ∀ (i : Nat) (l acc : List UInt8), l[i]? = some 47 → (∀ k : Nat, k < i → l[k]? ≠ some 47) → segs acc l = (acc ++ l.take i) :: segs [] (l.drop (i + 1))
  | i, [], acc, h, _ => by simp at h
  | 0, b :: t, acc, h, _ => by
    have hb : b = 47 := by simpa using h
    rw [segs, if_pos hb]
    simp
  | i + 1, b :: t, acc, h, h2 => by
    have hb : b ≠ 47 := fun e => h2 0 (by omega) (by simp [e])
    have h' : t[i]? = some 47 := by simpa using h
    have h2' : ∀ k : Nat, k < i → t[k]? ≠ some 47 := fun k hk => by simpa using h2 (k + 1) (by omega)
    rw [segs, if_neg hb, segs_hit i t (acc ++ [b]) h' h2']
    simp
theorem slash_size : slash.size = 1 := rfl
theorem slash_index (s : ByteArray) : Lib.indexB s slash = Lib.indexByte s.data.toList 47 := by
  rw [Lib.one s slash slash_size]
  rfl
theorem names_of_aux : ∀ (n : Nat) (s : ByteArray), s.size ≤ n → (namesOf s).map (fun x => x.data.toList) = segs [] s.data.toList := by
  intro n
  induction n with
  | zero =>
    intro s hs
    rcases Lib.indexB_cases s slash with hix | ⟨i, _, hroom⟩
    · unfold namesOf
      rw [Lib.splitB_miss slash 0 _ s hix]
      rw [slash_index] at hix
      rw [segs_miss _ _ (Lib.indexByte_none hix)]
      simp
    · rw [slash_size] at hroom; omega
  | succ n ih =>
    intro s hs
    rcases Lib.indexB_cases s slash with hix | ⟨i, hix, hroom⟩
    · unfold namesOf
      rw [Lib.splitB_miss slash 0 _ s hix]
      rw [slash_index] at hix
      rw [segs_miss _ _ (Lib.indexByte_none hix)]
      simp
    · rw [slash_size] at hroom
      have e2 : (s.extract (i + 1) s.size).size = s.size - (i + 1) := by rw [ByteArray.size_extract]; omega
      have := ih (s.extract (i + 1) s.size) (by omega)
      unfold namesOf at this ⊢
      rw [Lib.countB_hit s slash i (by decide) hix, Nat.add_comm, Lib.splitB_hit slash 0 _ s i hix]
      rw [slash_size, List.map_cons, this]
      rw [slash_index] at hix
      obtain ⟨h1, h2⟩ := Lib.indexByte_some hix
      rw [segs_hit i _ [] h1 h2]
      congr 1
      · simp
      · rw [Lib.extract_to_end]
theorem names_of (s : ByteArray) : (namesOf s).map (fun x => x.data.toList) = segs [] s.data.toList := names_of_aux s.size s (Nat.le_refl _)
theorem names_len (s : ByteArray) : (namesOf s).length = Lib.countB s slash + 1 := Lib.splitB_all slash (by decide) 0 _ s rfl
theorem names_most (s : ByteArray) : (namesOf s).length ≤ s.size + 1 := by
  rw [names_len]
  have := Lib.countB_le slash (by decide) s.size s (Nat.le_refl _)
  omega

/-- A row of bytes that is a name. -/
def fstB (b : UInt8) : Bool := decide (97 ≤ b.toNat ∧ b.toNat ≤ 122) || decide (65 ≤ b.toNat ∧ b.toNat ≤ 90) || decide (b.toNat = 95)
def moreB (b : UInt8) : Bool := fstB b || decide (48 ≤ b.toNat ∧ b.toNat ≤ 57) || decide (b.toNat = 46) || decide (b.toNat = 45)
def nameB : List UInt8 → Bool
  | [] => false
  | b :: t => fstB b && t.all moreB && decide (t.length + 1 ≤ 40)
theorem u8_all {p : UInt8 → Prop} (h : ∀ n : Fin 256, p (UInt8.ofNat n.val)) (b : UInt8) : p b := by
  have := h ⟨b.toNat, b.toNat_lt⟩
  simpa using this
theorem first_f (b : UInt8) : spec_l1First.f (b.toNat : Int) = some (fstB b) := by
  revert b
  refine u8_all ?_
  decide +kernel
theorem more_f (b : UInt8) : spec_l1More.f (b.toNat : Int) = some (moreB b) := by
  revert b
  refine u8_all ?_
  decide +kernel
theorem fst_more (b : UInt8) (h : fstB b = true) : moreB b = true := by unfold moreB; rw [h]; rfl
theorem spec_name_l0 (s : ByteArray) (hs : s.data.toList.length ≤ 9223372036854775806) : ∀ (n i : Nat), i + n = s.data.toList.length →
    Ev (fun k => spec_NameOk.l0 k s (i : Int)) ((s.data.toList.drop i).all moreB) := by
  intro n
  induction n with
  | zero =>
    intro i hi
    refine Ev.step (f := fun _ => some true) (fun k => ?_) ?_
    · unfold spec_NameOk.l0
      rw [if_neg (by rw [sz]; omega)]
    · rw [List.drop_of_length_le (by omega)]; exact Ev.now _
  | succ n ih =>
    intro i hi
    have hlt : i < s.data.toList.length := by omega
    have e : spec_l1More.f (bt s (i : Int)) = some (moreB (s.data.toList[i])) := by rw [bt_nat s i hlt]; exact more_f _
    have hd : s.data.toList.drop i = s.data.toList[i] :: s.data.toList.drop (i + 1) := List.drop_eq_getElem_cons hlt
    have w : wrap64 ((i : Int) + 1) = ((i + 1 : Nat) : Int) := by rw [w64] <;> omega
    by_cases c : moreB (s.data.toList[i]) = true
    · refine Ev.step (f := fun k => spec_NameOk.l0 k s ((i + 1 : Nat) : Int)) (fun k => ?_) ?_
      · conv => lhs; unfold spec_NameOk.l0
        rw [if_pos (by rw [sz]; omega), if_pos (by omega), e]
        simp only [Option.bind_some, if_pos c, w]
      · rw [hd, List.all_cons, c, Bool.true_and]; exact ih (i + 1) (by omega)
    · refine Ev.step (f := fun _ => some false) (fun k => ?_) ?_
      · conv => lhs; unfold spec_NameOk.l0
        rw [if_pos (by rw [sz]; omega), if_pos (by omega), e]
        simp only [Option.bind_some, if_neg c]
      · rw [hd, List.all_cons]
        rw [Bool.not_eq_true] at c
        rw [c, Bool.false_and]; exact Ev.now _
theorem spec_name (s : ByteArray) : Ev (fun k => spec_NameOk.f k s) (nameB s.data.toList) := by
  cases hl : s.data.toList with
  | nil =>
    refine Ev.congr (f := fun k => spec_NameOk.j0 k s true) (fun k => ?_) ?_
    · unfold spec_NameOk.f
      rw [if_pos (by rw [sz, hl]; decide)]
    · refine Ev.step (f := fun _ => some false) (fun k => ?_) (Ev.now _)
      rfl
  | cons b t =>
    have hz : (s.size : Int) = (t.length : Int) + 1 := by rw [sz, hl]; simp
    by_cases c : t.length + 1 ≤ 40
    · refine Ev.congr (f := fun k => spec_NameOk.j0 k s (!fstB b)) (fun k => ?_) ?_
      · unfold spec_NameOk.f
        rw [if_neg (by omega), if_neg (by omega), if_pos (by omega), first_bt s b t hl, first_f]
        rfl
      · by_cases d : fstB b = true
        · refine Ev.step (f := fun k => spec_NameOk.l0 k s ((1 : Nat) : Int)) (fun k => ?_) ?_
          · rw [d]; rfl
          · have := spec_name_l0 s (by rw [hl]; simp; omega) t.length 1 (by rw [hl]; simp; omega)
            rw [hl] at this
            have e : nameB (b :: t) = ((b :: t).drop 1).all moreB := by simp [nameB, d, c]
            rw [e]; exact this
        · rw [Bool.not_eq_true] at d
          have e : nameB (b :: t) = false := by simp [nameB, d]
          rw [e]
          refine Ev.step (f := fun _ => some false) (fun k => ?_) (Ev.now _)
          rw [d]; rfl
    · have e : nameB (b :: t) = false := by simp [nameB, c]
      rw [e]
      refine Ev.congr (f := fun k => spec_NameOk.j0 k s true) (fun k => ?_) ?_
      · unfold spec_NameOk.f
        rw [if_neg (by omega), if_pos (by omega)]
      · refine Ev.step (f := fun _ => some false) (fun k => ?_) (Ev.now _)
        rfl

def lenB (n : Nat) : Bool := decide (1 ≤ n) && decide (n ≤ 40)
theorem in_len (n : Nat) : impl_in.f (n : Int) 1 40 = some (lenB n) := by
  unfold impl_in.f lenB
  by_cases h : 1 ≤ n
  · rw [if_pos (by omega)]; simp [h]; omega
  · rw [if_neg (by omega)]; simp [h]
theorem fst_iff (b : UInt8) : fstB b = true ↔ ((97 ≤ (b.toNat : Int) ∧ (b.toNat : Int) ≤ 122) ∨ (65 ≤ (b.toNat : Int) ∧ (b.toNat : Int) ≤ 90) ∨ (b.toNat : Int) = 95) := by
  unfold fstB
  simp only [Bool.or_eq_true, decide_eq_true_eq]
  omega
theorem more_iff (b : UInt8) : moreB b = true ↔ (((97 ≤ (b.toNat : Int) ∧ (b.toNat : Int) ≤ 122) ∨ (65 ≤ (b.toNat : Int) ∧ (b.toNat : Int) ≤ 90) ∨ (b.toNat : Int) = 95) ∨ (48 ≤ (b.toNat : Int) ∧ (b.toNat : Int) ≤ 57) ∨ (b.toNat : Int) = 46 ∨ (b.toNat : Int) = 45) := by
  unfold moreB
  simp only [Bool.or_eq_true, decide_eq_true_eq, fst_iff]
  omega
theorem impl_name_l0 (s : ByteArray) (hs : s.data.toList.length ≤ 9223372036854775806) : ∀ (n i : Nat), 1 ≤ i → i + n = s.data.toList.length →
    Ev (fun k => impl_NameOk.l0 k s (s.size : Int) (i : Int)) ((s.data.toList.drop i).all moreB && lenB s.data.toList.length) := by
  intro n
  induction n with
  | zero =>
    intro i h1 hi
    refine Ev.step (f := fun _ => some (lenB s.data.toList.length)) (fun k => ?_) ?_
    · unfold impl_NameOk.l0
      rw [if_neg (by rw [sz]; omega), sz, in_len]
      rfl
    · rw [List.drop_of_length_le (by omega)]; exact Ev.now _
  | succ n ih =>
    intro i h1 hi
    have hlt : i < s.data.toList.length := by omega
    have hd : s.data.toList.drop i = s.data.toList[i] :: s.data.toList.drop (i + 1) := List.drop_eq_getElem_cons hlt
    have w : wrap64 ((i : Int) + 1) = ((i + 1 : Nat) : Int) := by rw [w64] <;> omega
    have hm := more_iff (s.data.toList[i])
    by_cases c : moreB (s.data.toList[i]) = true
    · have hv := hm.1 c
      refine Ev.step (f := fun k => impl_NameOk.l0 k s (s.size : Int) ((i + 1 : Nat) : Int)) (fun k => ?_) ?_
      · conv => lhs; unfold impl_NameOk.l0
        rw [if_pos (by rw [sz]; omega), if_pos (by omega), if_pos (by rw [sz]; omega), bt_nat s i hlt, w]
        generalize impl_NameOk.l0 k s (s.size : Int) ((i + 1 : Nat) : Int) = X
        generalize ((s.data.toList[i]).toNat : Int) = v at hv
        clear hm ih c hd w hs hi hlt
        have hi0 : ¬ (i : Int) = 0 := by omega
        simp only [if_neg hi0]
        clear hi0 h1
        repeat' split
        all_goals first | rfl | (exfalso; omega)
      · rw [hd, List.all_cons, c, Bool.true_and]; exact ih (i + 1) (by omega) (by omega)
    · have hv := mt hm.2 c
      refine Ev.step (f := fun _ => some false) (fun k => ?_) ?_
      · conv => lhs; unfold impl_NameOk.l0
        rw [if_pos (by rw [sz]; omega), if_pos (by omega), if_pos (by rw [sz]; omega), bt_nat s i hlt, w]
        generalize impl_NameOk.l0 k s (s.size : Int) ((i + 1 : Nat) : Int) = X
        generalize ((s.data.toList[i]).toNat : Int) = v at hv
        clear hm ih c hd w hs hi hlt
        have hi0 : ¬ (i : Int) = 0 := by omega
        simp only [if_neg hi0]
        clear hi0 h1
        repeat' split
        all_goals first | rfl | (exfalso; omega)
      · rw [hd, List.all_cons]
        rw [Bool.not_eq_true] at c
        rw [c, Bool.false_and, Bool.false_and]; exact Ev.now _
theorem impl_name (s : ByteArray) (hs : s.data.toList.length ≤ 9223372036854775806) : Ev (fun k => impl_NameOk.f k s) (nameB s.data.toList) := by
  cases hl : s.data.toList with
  | nil =>
    unfold impl_NameOk.f
    refine Ev.step (f := fun _ => some false) (fun k => ?_) (Ev.now _)
    unfold impl_NameOk.l0
    have hz : s.size = 0 := by rw [sz, hl]; rfl
    rw [if_neg (by omega), hz]
    rfl
  | cons b t =>
    have hlt : 0 < s.data.toList.length := by rw [hl]; simp
    have hlen : s.data.toList.length = t.length + 1 := by rw [hl]; simp
    have w : wrap64 ((0 : Int) + 1) = ((1 : Nat) : Int) := by rw [w64 (by omega) (by omega)]; rfl
    have hm := fst_iff b
    have eb : bt s 0 = (b.toNat : Int) := first_bt s b t hl
    unfold impl_NameOk.f
    by_cases c : fstB b = true
    · have hv := hm.1 c
      refine Ev.step (f := fun k => impl_NameOk.l0 k s (s.size : Int) ((1 : Nat) : Int)) (fun k => ?_) ?_
      · conv => lhs; unfold impl_NameOk.l0
        rw [if_pos (by rw [sz]; omega), if_pos (by omega), if_pos (by rw [sz]; omega), eb, w]
        generalize impl_NameOk.l0 k s (s.size : Int) ((1 : Nat) : Int) = X
        generalize (b.toNat : Int) = v at hv
        clear hm c eb w hs hlt hlen hl
        simp only [if_true]
        repeat' split
        all_goals first | rfl | (exfalso; omega)
      · have := impl_name_l0 s hs t.length 1 (by omega) (by omega)
        rw [hl] at this
        have e : nameB (b :: t) = (((b :: t).drop 1).all moreB && lenB (b :: t).length) := by
          simp [nameB, lenB, c]
        rw [e]; exact this
    · have hv := mt hm.2 c
      refine Ev.step (f := fun _ => some false) (fun k => ?_) ?_
      · conv => lhs; unfold impl_NameOk.l0
        rw [if_pos (by rw [sz]; omega), if_pos (by omega), if_pos (by rw [sz]; omega), eb, w]
        generalize impl_NameOk.l0 k s (s.size : Int) ((1 : Nat) : Int) = X
        generalize (b.toNat : Int) = v at hv
        clear hm c eb w hs hlt hlen hl
        simp only [if_true]
        repeat' split
        all_goals first | rfl | (exfalso; omega)
      · rw [Bool.not_eq_true] at c
        have e : nameB (b :: t) = false := by simp [nameB, c]
        rw [e]; exact Ev.now _
theorem segs_len : ∀ (l acc : List UInt8) (x : List UInt8), x ∈ segs acc l → x.length ≤ acc.length + l.length
  | [], acc, x, h => by simp [segs] at h; subst h; simp
  | b :: t, acc, x, h => by
    rw [segs] at h
    by_cases c : b = 47
    · rw [if_pos c] at h
      rcases List.mem_cons.1 h with h | h
      · subst h; simp
      · have := segs_len t [] x h; simp at this ⊢; omega
    · rw [if_neg c] at h
      have := segs_len t _ x h
      simp at this ⊢; omega
def stepsV (deep : Bool) (out : List ByteArray) (L : List (List UInt8)) : List ByteArray × Bool × Bool :=
  if L.all nameB = true then (out ++ L.map mkB, deep, decide (((out ++ L.map mkB).length : Int) ≤ 6)) else ([], false, false)
theorem stepsV_cons (deep : Bool) (out : List ByteArray) (x : ByteArray) (L : List (List UInt8)) (h : nameB x.data.toList = true) : stepsV deep out (x.data.toList :: L) = stepsV deep (out ++ [x]) L := by
  unfold stepsV
  rw [List.all_cons, h, Bool.true_and, List.map_cons, mkB_of]
  simp only [List.append_assoc, List.singleton_append]
theorem stepsV_bad (deep : Bool) (out : List ByteArray) (x : List UInt8) (L : List (List UInt8)) (h : nameB x = false) : stepsV deep out (x :: L) = ([], false, false) := by
  unfold stepsV
  rw [List.all_cons, h, Bool.false_and, if_neg (by decide)]
theorem ex1 (s : ByteArray) (i : Nat) (h : i < s.data.toList.length) : (s.extract i (i + 1)).data.toList = [s.data.toList[i]] := by
  rw [ByteArray.data_extract, Array.toList_extract]
  simp only [List.extract_eq_take_drop, Nat.add_sub_cancel_left]
  rw [List.drop_eq_getElem_cons h]
  rfl
theorem w47 (b : UInt8) : ((b.toNat : Int) != 47) = !(decide (b = 47)) := by
  have := byte_is b 47 (by decide)
  by_cases c : b = 47
  · subst c; rfl
  · have h2 : ¬ (b.toNat : Int) = 47 := fun h => c (this.1 h)
    simp [c, h2]
theorem spec_steps_l0 (p : ByteArray) (hp : p.data.toList.length ≤ 1048576) (deep : Bool) : ∀ (n i : Nat) (out : List ByteArray) (x : ByteArray), i + n = p.data.toList.length → out.length ≤ i → x.data.toList.length ≤ i →
    Ev (fun k => spec_l11Steps.l0 k p deep out x (i : Int)) (stepsV deep out (segs x.data.toList (p.data.toList.drop i))) := by
  have hend : ∀ (i : Nat) (out : List ByteArray) (x : ByteArray), p.data.toList.length < i → Ev (fun k => spec_l11Steps.l0 k p deep out x (i : Int)) (out, deep, decide ((out.length : Int) ≤ 6)) := by
    intro i out x hi
    refine Ev.step (f := fun _ => some (out, deep, decide ((out.length : Int) ≤ 6))) (fun k => ?_) (Ev.now _)
    unfold spec_l11Steps.l0
    rw [if_neg (by rw [sz]; omega)]
  intro n
  induction n with
  | zero =>
    intro i out x hi ho hx
    rw [List.drop_of_length_le (by omega), segs]
    refine Ev.step (f := fun k => spec_l11Steps.j3 k p deep out x (i : Int) false) (fun k => ?_) ?_
    · conv => lhs; unfold spec_l11Steps.l0
      rw [if_pos (by rw [sz]; omega), if_neg (by rw [sz]; omega)]
    · refine Ev.step (f := fun k => (spec_NameOk.f k x).bind fun t108 => (if t108 = true then (spec_l11Steps.l0 k p deep (out ++ [x]) (⟨#[]⟩ : ByteArray) ((i + 1 : Nat) : Int)) else (some (([] : List ByteArray), false, false)))) (fun k => ?_) ?_
      · have w : wrap64 ((i : Int) + 1) = ((i + 1 : Nat) : Int) := by rw [w64] <;> omega
        conv => lhs; unfold spec_l11Steps.j3
        rw [if_neg (by decide), w]
        simp only [if_pos (show out.length < 8796093022208 by omega)]
      · refine Ev.bind (spec_name x) ?_
        by_cases c : nameB x.data.toList = true
        · rw [stepsV_cons _ _ _ _ c]
          simp only [c, if_true]
          have := hend (i + 1) (out ++ [x]) ⟨#[]⟩ (by omega)
          simpa [stepsV] using this
        · rw [Bool.not_eq_true] at c
          rw [stepsV_bad _ _ _ _ c]
          simp only [c, Bool.false_eq_true, if_false]
          exact Ev.now _
  | succ n ih =>
    intro i out x hi ho hx
    have hlt : i < p.data.toList.length := by omega
    have hd : p.data.toList.drop i = p.data.toList[i] :: p.data.toList.drop (i + 1) := List.drop_eq_getElem_cons hlt
    have w : wrap64 ((i : Int) + 1) = ((i + 1 : Nat) : Int) := by rw [w64] <;> omega
    refine Ev.step (f := fun k => spec_l11Steps.j3 k p deep out x (i : Int) (!(decide (p.data.toList[i] = 47)))) (fun k => ?_) ?_
    · conv => lhs; unfold spec_l11Steps.l0
      rw [if_pos (by rw [sz]; omega), if_pos (by rw [sz]; omega), if_pos (by omega), bt_nat p i hlt, w47]
    · rw [hd, segs]
      by_cases c : p.data.toList[i] = 47
      · rw [if_pos c]
        refine Ev.step (f := fun k => (spec_NameOk.f k x).bind fun t108 => (if t108 = true then (spec_l11Steps.l0 k p deep (out ++ [x]) (⟨#[]⟩ : ByteArray) ((i + 1 : Nat) : Int)) else (some (([] : List ByteArray), false, false)))) (fun k => ?_) ?_
        · conv => lhs; unfold spec_l11Steps.j3
          rw [if_neg (by rw [decide_eq_true c]; decide), w]
          simp only [if_pos (show out.length < 8796093022208 by omega)]
        · refine Ev.bind (spec_name x) ?_
          by_cases d : nameB x.data.toList = true
          · rw [stepsV_cons _ _ _ _ d]
            simp only [d, if_true]
            exact ih (i + 1) (out ++ [x]) ⟨#[]⟩ (by omega) (by simp; omega) (by simp)
          · rw [Bool.not_eq_true] at d
            rw [stepsV_bad _ _ _ _ d]
            simp only [d, Bool.false_eq_true, if_false]
            exact Ev.now _
      · rw [if_neg c]
        have hx2 : (x ++ p.extract i (i + 1)).data.toList = x.data.toList ++ [p.data.toList[i]] := by rw [ba_app, ex1 p i hlt]
        have hz : (p.extract i (i + 1)).size = 1 := by rw [sz, ex1 p i hlt]; rfl
        refine Ev.step (f := fun k => spec_l11Steps.l0 k p deep out (x ++ p.extract i (i + 1)) ((i + 1 : Nat) : Int)) (fun k => ?_) ?_
        · conv => lhs; unfold spec_l11Steps.j3
          have e1 : ((i : Int)).toNat = i := by omega
          have e2 : (((i + 1 : Nat) : Int)).toNat = i + 1 := by omega
          rw [if_pos (by rw [decide_eq_false c]; rfl), if_pos (by omega), w, if_pos (show (i : Int) ≤ ((i + 1 : Nat) : Int) by omega), if_pos (show ((i + 1 : Nat) : Int) ≤ (p.size : Int) by rw [sz]; omega), e1, e2, if_pos (show x.size + (p.extract i (i + 1)).size ≤ 9223372036854775807 by rw [hz, sz x]; omega)]
        · have := ih (i + 1) out (x ++ p.extract i (i + 1)) (by omega) (by omega) (by rw [hx2, List.length_append, List.length_singleton]; omega)
          rw [hx2] at this
          exact this

/-- Whether two strokes stand ahead, and the rest. -/
def twoB : List UInt8 → Bool
  | a :: b :: _ => decide (a = 47) && decide (b = 47)
  | _ => false
theorem two_iff (l : List UInt8) : twoB l = (l.take 2 == [47, 47]) := by
  match l with
  | [] => rfl
  | [a] => simp [twoB]
  | a :: b :: t =>
    simp only [twoB, List.take_succ_cons, List.take_zero]
    by_cases h1 : a = 47 <;> by_cases h2 : b = 47 <;> simp [h1, h2]
theorem two_len (l : List UInt8) (h : twoB l = true) : 2 ≤ l.length := by
  match l, h with
  | a :: b :: t, _ => simp
theorem ex_take (s : ByteArray) (n : Nat) : (s.extract 0 n).data.toList = s.data.toList.take n := by
  rw [ByteArray.data_extract, Array.toList_extract]
  simp [List.extract_eq_take_drop]
def deepS (l : List UInt8) : Bool := decide (2 < l.length) && twoB l
def specSteps (l : List UInt8) : List ByteArray × Bool × Bool := stepsV (deepS l) [] (segs [] (if deepS l = true then l.drop 2 else l))
theorem spec_steps (s : ByteArray) (hs : s.data.toList.length ≤ 1048576) : Ev (fun k => spec_l11Steps.f k s) (specSteps s.data.toList) := by
  refine Ev.congr (f := fun k => spec_l11Steps.j0 k s (deepS s.data.toList)) (fun k => ?_) ?_
  · unfold spec_l11Steps.f deepS
    by_cases c : 2 < s.data.toList.length
    · rw [if_pos (by rw [sz]; omega), if_pos (by omega), if_pos (by rw [sz]; omega), Lib.toList_data, ex_take, two_iff, decide_eq_true c, Bool.true_and]
    · rw [if_neg (by rw [sz]; omega), decide_eq_false c, Bool.false_and]
  · cases hd : deepS s.data.toList with
    | true =>
      have h2 : 2 ≤ s.data.toList.length := by
        unfold deepS at hd
        simp only [Bool.and_eq_true, decide_eq_true_eq] at hd
        omega
      refine Ev.step (f := fun k => spec_l11Steps.j1 k (s.extract 2 s.size) true) (fun k => ?_) ?_
      · have e : spec_l11Steps.j0 (k + 1) s true = (if 2 ≤ (s.size : Int) then spec_l11Steps.j1 k (s.extract 2 s.size) true else none) := rfl
        rw [e, if_pos (by rw [sz]; omega)]
      · refine Ev.step (f := fun k => spec_l11Steps.l0 k (s.extract 2 s.size) true [] (⟨#[]⟩ : ByteArray) ((0 : Nat) : Int)) (fun k => ?_) ?_
        · rfl
        · have e : (s.extract 2 s.size).data.toList = s.data.toList.drop 2 := Lib.extract_to_end s 2
          have := spec_steps_l0 (s.extract 2 s.size) (by rw [e, List.length_drop]; omega) true _ 0 [] ⟨#[]⟩ (by rw [Nat.zero_add]) (by simp) (by simp)
          rw [e] at this
          unfold specSteps
          rw [hd]
          simpa using this
    | false =>
      refine Ev.step (f := fun k => spec_l11Steps.j1 k s false) (fun k => ?_) ?_
      · rfl
      · refine Ev.step (f := fun k => spec_l11Steps.l0 k s false [] (⟨#[]⟩ : ByteArray) ((0 : Nat) : Int)) (fun k => ?_) ?_
        · rfl
        · have := spec_steps_l0 s hs false _ 0 [] ⟨#[]⟩ (by rw [Nat.zero_add]) (by simp) (by simp)
          unfold specSteps
          rw [hd]
          simpa using this

/-- What the program's reader of paths answers. -/
def implSteps (s : ByteArray) : List ByteArray × Bool × Bool :=
  if 20000 < s.data.toList.length then ([], false, false)
  else if 6 < (segs [] (if twoB s.data.toList = true then s.data.toList.drop 2 else s.data.toList)).length then ([], false, false)
  else if (segs [] (if twoB s.data.toList = true then s.data.toList.drop 2 else s.data.toList)).all nameB = true then
    ((segs [] (if twoB s.data.toList = true then s.data.toList.drop 2 else s.data.toList)).map mkB, twoB s.data.toList, true)
  else ([], false, false)
theorem cut_two (s : ByteArray) : strings_CutPrefix.f s ⟨#[47, 47]⟩ = some (if twoB s.data.toList = true then s.extract 2 s.size else s, twoB s.data.toList) := by
  have e2 : (((⟨#[47, 47]⟩ : ByteArray).size : Nat) : Int) = 2 := rfl
  have e3 : (⟨#[47, 47]⟩ : ByteArray).toList = [47, 47] := by rw [Lib.toList_data]
  unfold strings_CutPrefix.f stringslite_CutPrefix.f stringslite_HasPrefix.f
  rw [e2, e3]
  by_cases c : 2 ≤ s.data.toList.length
  · rw [if_pos (by rw [sz]; omega), if_pos (by omega), if_pos (by rw [sz]; omega)]
    have e4 : (s.extract 0 ((2 : Int)).toNat).toList = s.data.toList.take 2 := by
      rw [Lib.toList_data]; exact ex_take s 2
    rw [e4, ← two_iff]
    simp only [Option.bind_some]
    cases ht : twoB s.data.toList with
    | true =>
      simp only [if_true]
      rw [if_pos (by omega), if_pos (by rw [sz]; omega)]
      rfl
    | false => rfl
  · have ht : twoB s.data.toList = false := by
      cases hh : twoB s.data.toList with
      | true => exact absurd (two_len _ hh) c
      | false => rfl
    rw [if_neg (by rw [sz]; omega), ht]
    rfl
theorem names_all (hb : Nat) (hbb : hb ≤ 9223372036854775806) : ∀ L : List ByteArray, (∀ x ∈ L, x.data.toList.length ≤ hb) → ∃ K, ∀ k, K ≤ k → ∀ x ∈ L, impl_NameOk.f k x = some (nameB x.data.toList)
  | [], _ => ⟨0, fun _ _ _ h => by cases h⟩
  | x :: L, h => by
    obtain ⟨K1, h1⟩ := impl_name x (Nat.le_trans (h x (by simp)) hbb)
    obtain ⟨K2, h2⟩ := names_all hb hbb L fun y hy => h y (by simp [hy])
    refine ⟨max K1 K2, fun k hk y hy => ?_⟩
    rcases List.mem_cons.1 hy with e | hy
    · subst e; exact h1 k (by omega)
    · exact h2 k (by omega) y hy
theorem any_same {α : Type} {f g : α → Bool} : ∀ L : List α, (∀ x ∈ L, f x = g x) → L.any f = L.any g
  | [], _ => rfl
  | x :: L, h => by
    rw [List.any_cons, List.any_cons, h x (by simp), any_same L fun y hy => h y (by simp [hy])]
theorem impl_steps (s : ByteArray) (hs : s.data.toList.length ≤ 1048576) : Ev (fun k => impl_stepsOf.f k s) (implSteps s) := by
  obtain ⟨t, ht⟩ : ∃ t, (if twoB s.data.toList = true then s.extract 2 s.size else s) = t := ⟨_, rfl⟩
  have htl : t.data.toList = (if twoB s.data.toList = true then s.data.toList.drop 2 else s.data.toList) := by
    rw [← ht]
    split
    · exact Lib.extract_to_end s 2
    · rfl
  have htn : t.data.toList.length ≤ 1048576 := by
    rw [htl]; split
    · rw [List.length_drop]; omega
    · exact hs
  have hno := names_of t
  have hlen : (namesOf t).length = (segs [] t.data.toList).length := by rw [← hno, List.length_map]
  have hmost := names_most t
  have hsmall : ∀ x ∈ namesOf t, x.data.toList.length ≤ 1048576 := by
    intro x hx
    have : x.data.toList ∈ segs [] t.data.toList := by rw [← hno]; exact List.mem_map_of_mem hx
    have := segs_len _ _ _ this
    simp at this ⊢
    simp at htn
    omega
  obtain ⟨K, hK⟩ := names_all 1048576 (by decide) (namesOf t) hsmall
  refine ⟨K, fun k hk => ?_⟩
  show impl_stepsOf.f k s = _
  unfold impl_stepsOf.f
  rw [cut_two, ht]
  simp only [Option.bind_some]
  rw [if_pos ⟨by rw [sz]; omega, names_len t, by rw [sz] at hmost; omega⟩]
  unfold implSteps
  rw [← htl, ← hlen]
  by_cases c1 : 20000 < s.data.toList.length
  · rw [if_pos (by rw [sz]; omega), if_pos c1]
  · rw [if_neg (by rw [sz]; omega), if_neg c1]
    by_cases c2 : 6 < (namesOf t).length
    · rw [if_pos (by omega), if_pos c2]
    · rw [if_neg (by omega), if_neg c2]
      have hall : (namesOf t).all (fun s => (impl_NameOk.f k s).isSome) = true := by
        rw [List.all_eq_true]; intro x hx; rw [hK k hk x hx]; rfl
      rw [if_pos hall]
      have hq : (namesOf t).any (fun s => !nameK k s) = !((segs [] t.data.toList).all nameB) := by
        rw [← hno, List.all_map, List.not_all_eq_any_not]
        refine any_same _ fun x hx => ?_
        unfold nameK
        rw [hK k hk x hx]
        rfl
      rw [hq]
      cases ha : (segs [] t.data.toList).all nameB with
      | true =>
        simp only [Bool.not_true, Bool.false_eq_true, if_false, if_true]
        congr 2
        rw [← hno, List.map_map]
        conv => lhs; rw [← List.map_id (namesOf t)]
        refine List.map_congr_left fun x _ => ?_
        exact (mkB_of x).symm
      | false => simp
def pathB (l : List UInt8) : Bool := (specSteps l).2.2 && decide (l.length ≤ 20000)
theorem spec_path (s : ByteArray) (hs : s.data.toList.length ≤ 1048576) : Ev (fun k => spec_PathOk.f k s) (pathB s.data.toList) := by
  unfold spec_PathOk.f pathB
  refine Ev.bind (spec_steps s hs) ?_
  cases h : (specSteps s.data.toList).2.2 with
  | true =>
    refine Ev.congr (f := fun _ => some (decide (s.data.toList.length ≤ 20000))) (fun k => ?_) (Ev.now _)
    rw [if_pos rfl]
    congr 1
    rw [sz]
    simp only [decide_eq_decide]
    omega
  | false =>
    refine Ev.congr (f := fun _ => some false) (fun k => ?_) (Ev.now _)
    rw [if_neg (by decide)]
/-- The two readers say alike whether a path is one; where it is one they tell the same names. -/
theorem steps_alike (s : ByteArray) : (implSteps s).2.2 = pathB s.data.toList ∧ (pathB s.data.toList = true → (implSteps s).1 = (specSteps s.data.toList).1 ∧ (implSteps s).2.1 = (specSteps s.data.toList).2.1) := by
  unfold pathB implSteps
  by_cases c1 : 20000 < s.data.toList.length
  · rw [if_pos c1]
    have : decide (s.data.toList.length ≤ 20000) = false := decide_eq_false (by omega)
    rw [this, Bool.and_false]
    exact ⟨rfl, fun h => by cases h⟩
  · rw [if_neg c1]
    have : decide (s.data.toList.length ≤ 20000) = true := decide_eq_true (by omega)
    rw [this, Bool.and_true]
    by_cases c2 : 2 < s.data.toList.length
    · have e : deepS s.data.toList = twoB s.data.toList := by unfold deepS; rw [decide_eq_true c2, Bool.true_and]
      unfold specSteps stepsV
      rw [e, List.nil_append]
      generalize hS : segs [] (if twoB s.data.toList = true then s.data.toList.drop 2 else s.data.toList) = S
      clear hS
      cases ha : S.all nameB with
      | true =>
        simp only [if_true, List.length_map]
        by_cases c3 : 6 < S.length
        · rw [if_pos c3]
          have : decide ((S.length : Int) ≤ 6) = false := decide_eq_false (by omega)
          rw [this]
          exact ⟨rfl, fun h => by cases h⟩
        · rw [if_neg c3]
          have : decide ((S.length : Int) ≤ 6) = true := decide_eq_true (by omega)
          rw [this]
          exact ⟨rfl, fun _ => ⟨rfl, rfl⟩⟩
      | false =>
        simp only [Bool.false_eq_true, if_false]
        refine ⟨?_, fun h => by cases h⟩
        split <;> rfl
    · have e : deepS s.data.toList = false := by unfold deepS; rw [decide_eq_false c2, Bool.false_and]
      unfold specSteps stepsV
      rw [e, List.nil_append]
      simp only [Bool.false_eq_true, if_false]
      cases ht : twoB s.data.toList with
      | true =>
        have hl : s.data.toList = [47, 47] := by
          match hm : s.data.toList, ht, c2 with
          | [a, b], ht, _ =>
            simp only [twoB, Bool.and_eq_true, decide_eq_true_eq] at ht
            rw [ht.1, ht.2]
          | a :: b :: c :: t, _, c2 => simp at c2
        rw [hl]
        exact ⟨by decide, fun h => absurd h (by decide)⟩
      | false =>
        simp only [Bool.false_eq_true, if_false]
        generalize segs [] s.data.toList = S
        cases ha : S.all nameB with
        | true =>
          simp only [if_true, List.length_map]
          by_cases c3 : 6 < S.length
          · rw [if_pos c3]
            have : decide ((S.length : Int) ≤ 6) = false := decide_eq_false (by omega)
            rw [this]
            exact ⟨rfl, fun h => by cases h⟩
          · rw [if_neg c3]
            have : decide ((S.length : Int) ≤ 6) = true := decide_eq_true (by omega)
            rw [this]
            exact ⟨rfl, fun _ => ⟨rfl, rfl⟩⟩
        | false =>
          simp only [Bool.false_eq_true, if_false]
          refine ⟨?_, fun h => by cases h⟩
          split <;> rfl
theorem impl_path (s : ByteArray) (hs : s.data.toList.length ≤ 1048576) : Ev (fun k => impl_PathOk.f k s) (pathB s.data.toList) := by
  unfold impl_PathOk.f
  refine Ev.bind (impl_steps s hs) ?_
  rw [← (steps_alike s).1]
  exact Ev.now _
/-- The place of the last sign @ (64) from place i on, acc if there is none. -/
def lastI (acc : Int) (i : Nat) : List UInt8 → Int
  | [] => acc
  | b :: t => lastI (if b = 64 then (i : Int) else acc) (i + 1) t
theorem lastI_none : ∀ (l : List UInt8) (acc : Int) (i : Nat), 64 ∉ l → lastI acc i l = acc
  | [], _, _, _ => rfl
  | b :: t, acc, i, h => by
    have hb : b ≠ 64 := fun e => h (by simp [e])
    rw [lastI, if_neg hb, lastI_none t acc (i + 1) fun e => h (by simp [e])]
theorem lastI_some : ∀ (l : List UInt8) (acc : Int) (i : Nat), 64 ∈ l → ∃ u v, l = u ++ 64 :: v ∧ 64 ∉ v ∧ lastI acc i l = ((i + u.length : Nat) : Int)
  | [], _, _, h => by cases h
  | b :: t, acc, i, h => by
    by_cases c : 64 ∈ t
    · obtain ⟨u, v, e, hv, hl⟩ := lastI_some t (if b = 64 then (i : Int) else acc) (i + 1) c
      refine ⟨b :: u, v, by rw [e]; rfl, hv, ?_⟩
      rw [lastI, hl]
      simp only [List.length_cons]
      omega
    · have hb : b = 64 := by
        rcases List.mem_cons.1 h with e | e
        · exact e.symm
        · exact absurd e c
      subst hb
      refine ⟨[], t, rfl, c, ?_⟩
      rw [lastI, if_pos rfl, lastI_none t _ _ c]
      simp
def okS (l : List UInt8) : Bool := (specSteps l).2.2 && !(specSteps l).2.1
/-- What stands ahead of the sign, and behind it. -/
def tailS (u v : List UInt8) : Bool := nameB v && (decide (u = []) || (decide (u.getLast? = some 47) && okS u.dropLast))
theorem nameB_all (l : List UInt8) (h : nameB l = true) : ∀ b ∈ l, moreB b = true := by
  cases l with
  | nil => intro b hb; cases hb
  | cons c t =>
    simp only [nameB, Bool.and_eq_true, List.all_eq_true] at h
    intro b hb
    rcases List.mem_cons.1 hb with e | e
    · subst e; exact fst_more _ h.1.1
    · exact h.1.2 b e
theorem not_more64 : moreB 64 = false := by decide
theorem nameB_no64 (l : List UInt8) (h : 64 ∈ l) : nameB l = false := by
  cases c : nameB l with
  | false => rfl
  | true =>
    have := nameB_all l c 64 h
    rw [not_more64] at this
    cases this
theorem segs_mem : ∀ (l acc : List UInt8), 64 ∈ acc ∨ 64 ∈ l → ∃ x ∈ segs acc l, 64 ∈ x
  | [], acc, h => by
    rcases h with h | h
    · exact ⟨acc, by simp [segs], h⟩
    · cases h
  | b :: t, acc, h => by
    rw [segs]
    by_cases c : b = 47
    · rw [if_pos c]
      rcases h with h | h
      · exact ⟨acc, by simp, h⟩
      · have ht : 64 ∈ t := by
          rcases List.mem_cons.1 h with e | e
          · rw [c] at e; exact absurd e (by decide)
          · exact e
        obtain ⟨x, hx, h64⟩ := segs_mem t [] (.inr ht)
        exact ⟨x, by simp [hx], h64⟩
    · rw [if_neg c]
      refine segs_mem t (acc ++ [b]) ?_
      rcases h with h | h
      · exact .inl (by simp [h])
      · rcases List.mem_cons.1 h with e | e
        · exact .inl (by simp [e])
        · exact .inr e
theorem okS_no64 (l : List UInt8) (h : 64 ∈ l) : okS l = false := by
  unfold okS specSteps stepsV
  have h2 : 64 ∈ (if deepS l = true then l.drop 2 else l) := by
    split
    · rename_i hd
      unfold deepS at hd
      simp only [Bool.and_eq_true] at hd
      match l, hd.2, h with
      | a :: b :: t, hd2, h =>
        simp only [twoB, Bool.and_eq_true, decide_eq_true_eq] at hd2
        rw [hd2.1, hd2.2] at h
        simpa using h
    · exact h
  obtain ⟨x, hx, h64⟩ := segs_mem _ [] (.inr h2)
  have : ((segs [] (if deepS l = true then l.drop 2 else l)).all nameB) = false := by
    rw [List.all_eq_false]
    exact ⟨x, hx, by rw [nameB_no64 x h64]; decide⟩
  rw [if_neg (by rw [this]; decide)]
  rfl
/-- What the reference says of a field. -/
def fieldS (l : List UInt8) : Bool :=
  if l = [46] then true
  else if 64 ∈ l then (match lastI (-1) 0 l with | (n : Int) => tailS (l.take n.toNat) (l.drop (n.toNat + 1)))
  else okS l
theorem b64 (b : UInt8) : ((b.toNat : Int) = 64) ↔ b = 64 := byte_is b 64 (by decide)
theorem take_last {u v : List UInt8} {c : UInt8} (n : Nat) (h : (u ++ c :: v)[n]? = some 47) (hn : n + 1 = u.length) : u.getLast? = some 47 := by
  rw [List.getLast?_eq_getElem?]
  rw [List.getElem?_append_left (by omega)] at h
  have : u.length - 1 = n := by omega
  rw [this]; exact h
theorem spec_field_end (s : ByteArray) (hs : s.data.toList.length ≤ 1048576) (hne : s.data.toList ≠ [46]) (i : Nat) (hi : s.data.toList.length ≤ i) :
    ∃ r, Ev (fun k => spec_l11Field.l0 k s (lastI (-1) 0 s.data.toList) (i : Int)) r ∧ r.2.2 = fieldS s.data.toList := by
  by_cases h64 : 64 ∈ s.data.toList
  · obtain ⟨u, v, e, hv, hl⟩ := lastI_some s.data.toList (-1) 0 h64
    have hf : fieldS s.data.toList = tailS u v := by
      unfold fieldS
      rw [if_neg hne, if_pos h64, hl]
      simp only [Nat.zero_add, Int.toNat_natCast]
      rw [e]
      simp
    rw [Nat.zero_add] at hl
    have hlen : s.data.toList.length = u.length + (v.length + 1) := by rw [e]; simp
    have w1 : wrap64 ((u.length : Int) + 1) = ((u.length + 1 : Nat) : Int) := by rw [w64] <;> omega
    have e1 : (s.extract (u.length + 1) s.size).data.toList = v := by
      rw [Lib.extract_to_end, e]
      simp
    rw [hl, hf]
    have hname := spec_name (s.extract (u.length + 1) s.size)
    rw [e1] at hname
    by_cases hn : nameB v = true
    · by_cases hu : u = []
      · subst hu
        refine ⟨((⟨#[]⟩ : ByteArray), s.extract (0 + 1) s.size, true), ?_, by unfold tailS; rw [hn]; rfl⟩
        refine Ev.step (f := fun k => (spec_NameOk.f k (s.extract (0 + 1) s.size)).bind fun t => if t = true then some ((⟨#[]⟩ : ByteArray), s.extract (0 + 1) s.size, true) else some ((⟨#[]⟩ : ByteArray), (⟨#[]⟩ : ByteArray), false)) (fun k => ?_) ?_
        · conv => lhs; unfold spec_l11Field.l0
          rw [if_neg (by rw [sz]; omega), if_neg (by omega), w1, if_pos (by omega), if_pos (by rw [sz]; omega)]
          rfl
        · refine Ev.bind hname ?_
          rw [hn]
          exact Ev.now _
      · have hup : 0 < u.length := List.length_pos_iff.2 hu
        have w2 : wrap64 ((u.length : Int) - 1) = ((u.length - 1 : Nat) : Int) := by rw [w64] <;> omega
        have hlt : u.length - 1 < s.data.toList.length := by omega
        have hbt := bt_nat s (u.length - 1) hlt
        have hg : s.data.toList[u.length - 1]? = some (s.data.toList[u.length - 1]) := List.getElem?_eq_getElem hlt
        by_cases h47 : s.data.toList[u.length - 1] = 47
        · have hlast : u.getLast? = some 47 := by
            refine take_last (u := u) (v := v) (c := 64) (u.length - 1) ?_ (by omega)
            rw [← e, hg, h47]
          have e2 : (s.extract 0 (u.length - 1)).data.toList = u.dropLast := by
            rw [ex_take, e, List.take_append_of_le_length (by omega), List.dropLast_eq_take]
          have hst := spec_steps (s.extract 0 (u.length - 1)) (by rw [e2, List.length_dropLast]; omega)
          rw [e2] at hst
          have ht : tailS u v = okS u.dropLast := by
            unfold tailS
            rw [hn, decide_eq_false hu, decide_eq_true hlast]
            rfl
          rw [ht]
          refine ⟨(s.extract 0 (u.length - 1), s.extract (u.length + 1) s.size, okS u.dropLast), ?_, rfl⟩
          refine Ev.step (f := fun k => (spec_NameOk.f k (s.extract (u.length + 1) s.size)).bind fun t => if t = true then ((spec_l11Steps.f k (s.extract 0 (u.length - 1))).bind fun bt139 => (if bt139.2.2 = true then (some (s.extract 0 (u.length - 1), s.extract (u.length + 1) s.size, !bt139.2.1)) else (some (s.extract 0 (u.length - 1), s.extract (u.length + 1) s.size, false)))) else some ((⟨#[]⟩ : ByteArray), (⟨#[]⟩ : ByteArray), false)) (fun k => ?_) ?_
          · conv => lhs; unfold spec_l11Field.l0
            rw [if_neg (by rw [sz]; omega), if_neg (by omega), w1, if_pos (by omega), if_pos (by rw [sz]; omega), w2, if_neg (by omega), if_pos (by omega), if_pos (by rw [sz]; omega), hbt, if_pos (by rw [h47]; rfl), if_pos (by rw [sz]; omega)]
            rfl
          · refine Ev.bind hname ?_
            rw [hn]
            simp only [if_true]
            refine Ev.bind hst ?_
            unfold okS
            cases (specSteps u.dropLast).2.2 with
            | true => exact Ev.now _
            | false => exact Ev.now _
        · have h47' : ¬ ((s.data.toList[u.length - 1].toNat : Int) = 47) := fun h => h47 ((byte_is _ 47 (by decide)).1 h)
          have hlast : u.getLast? ≠ some 47 := by
            intro h
            rw [List.getLast?_eq_getElem?] at h
            apply h47
            have : s.data.toList[u.length - 1]? = some 47 := by
              rw [e, List.getElem?_append_left (by omega)]; exact h
            rw [hg] at this
            exact Option.some.inj this
          have ht : tailS u v = false := by
            unfold tailS
            rw [decide_eq_false hu, decide_eq_false hlast]
            simp
          rw [ht]
          refine ⟨((⟨#[]⟩ : ByteArray), (⟨#[]⟩ : ByteArray), false), ?_, rfl⟩
          refine Ev.step (f := fun k => (spec_NameOk.f k (s.extract (u.length + 1) s.size)).bind fun t => if t = true then some ((⟨#[]⟩ : ByteArray), (⟨#[]⟩ : ByteArray), false) else some ((⟨#[]⟩ : ByteArray), (⟨#[]⟩ : ByteArray), false)) (fun k => ?_) ?_
          · conv => lhs; unfold spec_l11Field.l0
            rw [if_neg (by rw [sz]; omega), if_neg (by omega), w1, if_pos (by omega), if_pos (by rw [sz]; omega), w2, if_neg (by omega), if_pos (by omega), if_pos (by rw [sz]; omega), hbt, if_neg h47']
            rfl
          · refine Ev.bind hname ?_
            rw [hn]
            exact Ev.now _
    · rw [Bool.not_eq_true] at hn
      have ht : tailS u v = false := by unfold tailS; rw [hn]; rfl
      rw [ht]
      refine ⟨((⟨#[]⟩ : ByteArray), (⟨#[]⟩ : ByteArray), false), ?_, rfl⟩
      obtain ⟨K, hK⟩ := hname
      refine ⟨K + 1, fun k hk => ?_⟩
      obtain ⟨m, rfl⟩ : ∃ m, k = m + 1 := ⟨k - 1, by omega⟩
      show spec_l11Field.l0 (m + 1) s (u.length : Int) (i : Int) = _
      conv => lhs; unfold spec_l11Field.l0
      rw [if_neg (by rw [sz]; omega), if_neg (by omega), w1, if_pos (by omega), if_pos (by rw [sz]; omega)]
      have e3 : (((u.length + 1 : Nat) : Int)).toNat = u.length + 1 := by omega
      have hK' : spec_NameOk.f m (s.extract (u.length + 1) s.size) = some (nameB v) := hK m (by omega)
      rw [e3, hK', hn]
      rfl
  · have hl := lastI_none s.data.toList (-1) 0 h64
    have hf : fieldS s.data.toList = okS s.data.toList := by
      unfold fieldS
      rw [if_neg hne, if_neg h64]
    rw [hl, hf]
    refine ⟨(s, (⟨#[]⟩ : ByteArray), okS s.data.toList), ?_, rfl⟩
    refine Ev.step (f := fun k => (spec_l11Steps.f k s).bind fun bt133 => (if bt133.2.2 = true then (some (s, (⟨#[]⟩ : ByteArray), !bt133.2.1)) else (some (s, (⟨#[]⟩ : ByteArray), false)))) (fun k => ?_) ?_
    · conv => lhs; unfold spec_l11Field.l0
      rw [if_neg (by rw [sz]; omega), if_pos (by decide)]
    · refine Ev.bind (spec_steps s hs) ?_
      unfold okS
      cases (specSteps s.data.toList).2.2 with
      | true => exact Ev.now _
      | false => exact Ev.now _
theorem spec_field_l0 (s : ByteArray) (hs : s.data.toList.length ≤ 1048576) (r : ByteArray × ByteArray × Bool) : ∀ (n i : Nat) (acc : Int), i + n = s.data.toList.length →
    Ev (fun k => spec_l11Field.l0 k s (lastI acc i (s.data.toList.drop i)) ((s.data.toList.length : Nat) : Int)) r → Ev (fun k => spec_l11Field.l0 k s acc (i : Int)) r := by
  intro n
  induction n with
  | zero =>
    intro i acc hi h
    rw [List.drop_of_length_le (by omega)] at h
    have : i = s.data.toList.length := by omega
    rw [this]
    exact h
  | succ n ih =>
    intro i acc hi h
    have hlt : i < s.data.toList.length := by omega
    have hd : s.data.toList.drop i = s.data.toList[i] :: s.data.toList.drop (i + 1) := List.drop_eq_getElem_cons hlt
    have w : wrap64 ((i : Int) + 1) = ((i + 1 : Nat) : Int) := by rw [w64] <;> omega
    rw [hd, lastI] at h
    refine Ev.step (f := fun k => spec_l11Field.l0 k s (if s.data.toList[i] = 64 then (i : Int) else acc) ((i + 1 : Nat) : Int)) (fun k => ?_) (ih (i + 1) _ (by omega) h)
    conv => lhs; unfold spec_l11Field.l0
    rw [if_pos (by rw [sz]; omega), if_pos (by omega), bt_nat s i hlt, w]
    by_cases c : s.data.toList[i] = 64
    · rw [if_pos ((b64 _).2 c), if_pos c]
    · rw [if_neg (fun h => c ((b64 _).1 h)), if_neg c]
theorem spec_field (s : ByteArray) (hs : s.data.toList.length ≤ 1048576) : ∃ r, Ev (fun k => spec_l11Field.f k s) r ∧ r.2.2 = fieldS s.data.toList := by
  by_cases hne : s.data.toList = [46]
  · refine ⟨((⟨#[]⟩ : ByteArray), (⟨#[]⟩ : ByteArray), true), ?_, by unfold fieldS; rw [if_pos hne]⟩
    refine Ev.congr (f := fun _ => some ((⟨#[]⟩ : ByteArray), (⟨#[]⟩ : ByteArray), true)) (fun k => ?_) (Ev.now _)
    unfold spec_l11Field.f
    rw [Lib.toList_data, if_pos hne]
  · obtain ⟨r, hr, hv⟩ := spec_field_end s hs hne s.data.toList.length (Nat.le_refl _)
    refine ⟨r, ?_, hv⟩
    refine Ev.congr (f := fun k => spec_l11Field.l0 k s (-1) ((0 : Nat) : Int)) (fun k => ?_) ?_
    · unfold spec_l11Field.f
      rw [Lib.toList_data, if_neg hne]
      rfl
    · exact spec_field_l0 s hs r s.data.toList.length 0 (-1) (by omega) (by simpa using hr)
/-- What the program says of a field. -/
def fieldB (l : List UInt8) : Bool := decide (l.length ≤ 20000) && fieldS l
theorem two_split {p q u v : List UInt8} (h : p ++ 64 :: q = u ++ 64 :: v) (hp : 64 ∉ p) (hv : 64 ∉ v) : (p = u ∧ q = v) ∨ (64 ∈ q ∧ 64 ∈ u.dropLast ∧ u ≠ [] ) ∨ (64 ∈ q ∧ u ≠ [] ∧ u.getLast? = some 64) := by
  rcases List.append_eq_append_iff.1 h with ⟨a, h1, h2⟩ | ⟨a, h1, h2⟩
  · cases a with
    | nil =>
      simp at h1 h2
      exact .inl ⟨h1.symm, h2⟩
    | cons c a =>
      simp only [List.cons_append, List.cons.injEq] at h2
      obtain ⟨rfl, h2⟩ := h2
      have hq : 64 ∈ q := by rw [h2]; simp
      have hu : u ≠ [] := by rw [h1]; simp
      cases a with
      | nil => exact .inr (.inr ⟨hq, hu, by rw [h1]; simp⟩)
      | cons d a =>
        refine .inr (.inl ⟨hq, ?_, hu⟩)
        rw [h1, List.dropLast_append_of_ne_nil (by simp)]
        rw [List.dropLast_cons_of_ne_nil (by simp)]
        simp
  · cases a with
    | nil =>
      simp at h1 h2
      exact .inl ⟨h1, h2.symm⟩
    | cons c a =>
      exfalso
      simp only [List.cons_append, List.cons.injEq] at h2
      obtain ⟨rfl, h2⟩ := h2
      exact hp (by rw [h1]; simp)
theorem tail_alike {p q u v : List UInt8} (h : p ++ 64 :: q = u ++ 64 :: v) (hp : 64 ∉ p) (hv : 64 ∉ v) : tailS p q = tailS u v := by
  rcases two_split h hp hv with ⟨rfl, rfl⟩ | ⟨hq, hu, hne⟩ | ⟨hq, hne, hl⟩
  · rfl
  · unfold tailS
    rw [nameB_no64 q hq, okS_no64 _ hu, decide_eq_false hne]
    simp
  · unfold tailS
    rw [nameB_no64 q hq, decide_eq_false hne, hl]
    simp
theorem first_split (l : List UInt8) (i : Nat) (h : Lib.indexByte l 64 = (i : Int)) : l = l.take i ++ 64 :: l.drop (i + 1) ∧ 64 ∉ l.take i := by
  obtain ⟨h1, h2⟩ := Lib.indexByte_some h
  obtain ⟨hlt, hv⟩ := List.getElem?_eq_some_iff.1 h1
  refine ⟨?_, fun hm => ?_⟩
  · conv => lhs; rw [← List.take_append_drop i l, List.drop_eq_getElem_cons hlt, hv]
  · obtain ⟨j, hj⟩ := List.getElem?_of_mem hm
    have hjl := (List.getElem?_eq_some_iff.1 hj).1
    simp only [List.length_take] at hjl
    rw [List.getElem?_take_of_lt (by omega)] at hj
    exact h2 j (by omega) hj
theorem fieldS_first (l : List UInt8) (i : Nat) (hne : l ≠ [46]) (h : Lib.indexByte l 64 = (i : Int)) : fieldS l = tailS (l.take i) (l.drop (i + 1)) := by
  obtain ⟨e, hp⟩ := first_split l i h
  have h64 : 64 ∈ l := by rw [e]; simp
  obtain ⟨u, v, e2, hv, hl⟩ := lastI_some l (-1) 0 h64
  unfold fieldS
  rw [if_neg hne, if_pos h64, hl]
  simp only [Nat.zero_add, Int.toNat_natCast]
  have : l.take u.length = u ∧ l.drop (u.length + 1) = v := by rw [e2]; simp
  rw [this.1, this.2]
  exact (tail_alike (by rw [← e, e2]) hp hv).symm
theorem steps_okS (s : ByteArray) (h : s.data.toList.length ≤ 20000) : ((implSteps s).2.2 && !(implSteps s).2.1) = okS s.data.toList := by
  obtain ⟨h1, h2⟩ := steps_alike s
  have e : pathB s.data.toList = (specSteps s.data.toList).2.2 := by unfold pathB; rw [decide_eq_true h, Bool.and_true]
  unfold okS
  rw [h1, e]
  cases hp : (specSteps s.data.toList).2.2 with
  | true =>
    rw [(h2 (by rw [e, hp])).2]
  | false => rfl
theorem cut_suffix (s : ByteArray) (hs : s.data.toList.length ≤ 1048576) : strings_CutSuffix.f s ⟨#[47]⟩ = some (if s.data.toList.getLast? = some 47 then (s.extract 0 (s.data.toList.length - 1), true) else (s, false)) := by
  have e2 : (((⟨#[47]⟩ : ByteArray).size : Nat) : Int) = 1 := rfl
  have e3 : (⟨#[47]⟩ : ByteArray).toList = [47] := by rw [Lib.toList_data]
  unfold strings_CutSuffix.f stringslite_CutSuffix.f stringslite_HasSuffix.f
  rw [e2, e3]
  by_cases c : 1 ≤ s.data.toList.length
  · have w : wrap64 ((s.size : Int) - 1) = ((s.data.toList.length - 1 : Nat) : Int) := by rw [sz, w64] <;> omega
    rw [w, if_pos (by rw [sz]; omega), if_pos (by omega), if_pos (by rw [sz]; omega)]
    have hlt : s.data.toList.length - 1 < s.data.toList.length := by omega
    have e4 : (s.extract (((s.data.toList.length - 1 : Nat) : Int)).toNat s.size).toList = [s.data.toList[s.data.toList.length - 1]] := by
      rw [Lib.toList_data, Int.toNat_natCast, Lib.extract_to_end, List.drop_eq_getElem_cons hlt, List.drop_of_length_le (by omega)]
    have hg : s.data.toList.getLast? = some (s.data.toList[s.data.toList.length - 1]) := by
      rw [List.getLast?_eq_getElem?, List.getElem?_eq_getElem hlt]
    rw [e4, hg]
    simp only [Option.bind_some]
    by_cases h47 : s.data.toList[s.data.toList.length - 1] = 47
    · rw [h47]
      simp only [beq_self_eq_true, if_true]
      rw [if_pos (by omega), if_pos (by rw [sz]; omega)]
      rfl
    · rw [if_neg (by simpa using h47), if_neg (by simpa using h47)]
      rfl
  · have hl : s.data.toList = [] := List.length_eq_zero_iff.1 (by omega)
    rw [if_neg (by rw [sz]; omega), hl]
    rfl
theorem j0_eq (k : Nat) (x0 x5 x6 : ByteArray) (x7 x19 : Bool) : impl_fieldParts.j0 (k + 1) x0 x5 x6 x7 x19 = (if x19 = true then (some (([] : List ByteArray), (⟨#[]⟩ : ByteArray), false)) else (if x0.toList = ([46] : List UInt8) then (impl_fieldParts.j1 k x5 x6 x7 true) else (if x7 = true then (impl_fieldParts.j1 k x5 x6 x7 (x5.toList == ([] : List UInt8))) else (impl_fieldParts.j1 k x5 x6 x7 false)))) := rfl
theorem j1_eq (k : Nat) (x5 x6 : ByteArray) (x7 x31 : Bool) : impl_fieldParts.j1 (k + 1) x5 x6 x7 x31 = (if x31 = true then (some (([] : List ByteArray), x6, true)) else (if x7 = true then ((strings_CutSuffix.f x5 (⟨#[47]⟩ : ByteArray)).bind fun bt191 => (if bt191.2 = true then ((impl_stepsOf.f k bt191.1).bind fun bt193 => (if bt193.2.2 = true then (some (bt193.1, x6, !bt193.2.1)) else (some (bt193.1, x6, false)))) else (some (([] : List ByteArray), (⟨#[]⟩ : ByteArray), false)))) else ((impl_stepsOf.f k x5).bind fun bt198 => (if bt198.2.2 = true then (some (bt198.1, x6, !bt198.2.1)) else (some (bt198.1, x6, false)))))) := rfl
theorem impl_field (s : ByteArray) (hs : s.data.toList.length ≤ 1048576) : ∃ r, Ev (fun k => impl_fieldParts.f k s) r ∧ r.2.2 = fieldB s.data.toList := by
  have hsz : s.size ≤ 9223372036854775807 := by rw [sz]; omega
  obtain ⟨c1, c2, c3, hcut, hw⟩ : ∃ c1 c2 c3, strings_Cut.f s ⟨#[64]⟩ = some (c1, c2, c3) ∧
      ((c3 = true ∧ ∃ i : Nat, Lib.indexByte s.data.toList 64 = (i : Int) ∧ c1.data.toList = s.data.toList.take i ∧ c2.data.toList = s.data.toList.drop (i + 1)) ∨ (c3 = false ∧ c1 = s ∧ c2 = ⟨#[]⟩ ∧ 64 ∉ s.data.toList)) := by
    unfold strings_Cut.f
    simp only [if_pos hsz]
    by_cases h0 : 0 ≤ Lib.indexByte s.data.toList 64
    · obtain ⟨i, hi⟩ := Int.eq_ofNat_of_zero_le h0
      rw [if_pos h0]
      refine ⟨_, _, _, rfl, .inl ⟨rfl, i, hi, ?_, ?_⟩⟩
      · rw [hi, Int.toNat_natCast, ex_take]
      · rw [hi, Int.toNat_natCast, Lib.extract_to_end]
    · rw [if_neg h0]
      refine ⟨_, _, _, rfl, .inr ⟨rfl, rfl, rfl, fun hm => ?_⟩⟩
      have := Lib.indexByte_none (l := s.data.toList) (c := 64) (by have := Lib.indexByte_ge s.data.toList 64; omega)
      obtain ⟨j, hj⟩ := List.getElem?_of_mem hm
      exact this j hj
  have hbad : ∀ (b1 b2 : ByteArray) (b3 : Bool), Ev (fun k => impl_fieldParts.j0 k s b1 b2 b3 true) (([] : List ByteArray), (⟨#[]⟩ : ByteArray), false) := by
    intro b1 b2 b3
    refine Ev.step (f := fun _ => some (([] : List ByteArray), (⟨#[]⟩ : ByteArray), false)) (fun k => ?_) (Ev.now _)
    rfl
  by_cases hbig : 20000 < s.data.toList.length
  · refine ⟨([], ⟨#[]⟩, false), ?_, by unfold fieldB; rw [decide_eq_false (by omega)]; rfl⟩
    refine Ev.congr (f := fun k => impl_fieldParts.j0 k s c1 c2 c3 true) (fun k => ?_) (hbad _ _ _)
    unfold impl_fieldParts.f
    rw [hcut]
    simp only [Option.bind_some]
    rw [if_pos (by rw [sz]; omega)]
  · have hB : fieldB s.data.toList = fieldS s.data.toList := by unfold fieldB; rw [decide_eq_true (by omega), Bool.true_and]
    rw [hB]
    rcases hw with ⟨rfl, i, hi, e1, e2⟩ | ⟨hc3, hc1, hc2, h64⟩
    · have hname := impl_name c2 (by rw [e2, List.length_drop]; omega)
      rw [e2] at hname
      have hhead : ∀ b : Bool, nameB (s.data.toList.drop (i + 1)) = b → ∀ r, Ev (fun k => impl_fieldParts.j0 k s c1 c2 true (!b)) r → Ev (fun k => impl_fieldParts.f k s) r := by
        intro b hb r hr
        refine Ev.congr (f := fun k => (impl_NameOk.f k c2).bind fun t190 => (impl_fieldParts.j0 k s c1 c2 true (!t190))) (fun k => ?_) ?_
        · unfold impl_fieldParts.f
          rw [hcut]
          simp only [Option.bind_some]
          rw [if_neg (by rw [sz]; omega), if_pos trivial]
        · refine Ev.bind hname ?_
          rw [hb]
          exact hr
      have hne : s.data.toList ≠ [46] := by
        intro e
        rw [e] at hi
        have : Lib.indexByte [46] 64 = -1 := by decide
        rw [this] at hi
        omega
      have hfs := fieldS_first s.data.toList i hne hi
      rw [hfs]
      by_cases hn : nameB (s.data.toList.drop (i + 1)) = true
      · have hj0 : ∀ r, Ev (fun k => impl_fieldParts.j1 k c1 c2 true (c1.toList == ([] : List UInt8))) r → Ev (fun k => impl_fieldParts.f k s) r := by
          intro r hr
          refine hhead true hn r ?_
          refine Ev.step (f := fun k => impl_fieldParts.j1 k c1 c2 true (c1.toList == ([] : List UInt8))) (fun k => ?_) hr
          rw [j0_eq, if_neg (by decide), Lib.toList_data s, if_neg hne, if_pos rfl]
        rw [Lib.toList_data, e1] at hj0
        by_cases hp : s.data.toList.take i = []
        · refine ⟨([], c2, true), hj0 _ ?_, by unfold tailS; rw [hn, hp]; rfl⟩
          rw [hp]
          refine Ev.step (f := fun _ => some (([] : List ByteArray), c2, true)) (fun k => ?_) (Ev.now _)
          rfl
        · have hsuf := cut_suffix c1 (by rw [e1, List.length_take]; omega)
          rw [e1] at hsuf
          have hpb : (s.data.toList.take i == ([] : List UInt8)) = false := by simpa using hp
          rw [hpb] at hj0
          by_cases hl : (s.data.toList.take i).getLast? = some 47
          · rw [if_pos hl] at hsuf
            obtain ⟨d, hd⟩ : ∃ d, c1.extract 0 ((s.data.toList.take i).length - 1) = d := ⟨_, rfl⟩
            have ed : d.data.toList = (s.data.toList.take i).dropLast := by
              rw [← hd, ex_take, e1, List.dropLast_eq_take]
            rw [hd] at hsuf
            have hdl : d.data.toList.length ≤ 20000 := by rw [ed, List.length_dropLast, List.length_take]; omega
            have hst := impl_steps d (by omega)
            have hok := steps_okS d hdl
            rw [ed] at hok
            have ht : tailS (s.data.toList.take i) (s.data.toList.drop (i + 1)) = okS (s.data.toList.take i).dropLast := by
              unfold tailS
              rw [hn, decide_eq_false hp, decide_eq_true hl]
              rfl
            rw [ht, ← hok]
            refine ⟨((implSteps d).1, c2, (implSteps d).2.2 && !(implSteps d).2.1), hj0 _ ?_, rfl⟩
            refine Ev.step (f := fun k => (impl_stepsOf.f k d).bind fun bt193 => (if bt193.2.2 = true then (some (bt193.1, c2, !bt193.2.1)) else (some (bt193.1, c2, false)))) (fun k => ?_) ?_
            · rw [j1_eq, if_neg (by decide), if_pos rfl, hsuf]
              rfl
            · refine Ev.bind hst ?_
              cases (implSteps d).2.2 with
              | true => exact Ev.now _
              | false => exact Ev.now _
          · rw [if_neg hl] at hsuf
            have ht : tailS (s.data.toList.take i) (s.data.toList.drop (i + 1)) = false := by
              unfold tailS
              rw [decide_eq_false hp, decide_eq_false hl]
              simp
            rw [ht]
            refine ⟨([], ⟨#[]⟩, false), hj0 _ ?_, rfl⟩
            refine Ev.step (f := fun _ => some (([] : List ByteArray), (⟨#[]⟩ : ByteArray), false)) (fun k => ?_) (Ev.now _)
            rw [j1_eq, if_neg (by decide), if_pos rfl, hsuf]
            rfl
      · rw [Bool.not_eq_true] at hn
        refine ⟨([], ⟨#[]⟩, false), hhead false hn _ (hbad _ _ _), by unfold tailS; rw [hn]; rfl⟩
    · rw [hc3, hc1, hc2] at hcut
      have hhead : ∀ r, Ev (fun k => impl_fieldParts.j0 k s s ⟨#[]⟩ false false) r → Ev (fun k => impl_fieldParts.f k s) r := by
        intro r hr
        refine Ev.congr (f := fun k => impl_fieldParts.j0 k s s ⟨#[]⟩ false false) (fun k => ?_) hr
        unfold impl_fieldParts.f
        rw [hcut]
        simp only [Option.bind_some]
        rw [if_neg (by rw [sz]; omega), if_neg (by decide)]
      by_cases hne : s.data.toList = [46]
      · refine ⟨([], ⟨#[]⟩, true), hhead _ ?_, by unfold fieldS; rw [if_pos hne]⟩
        refine Ev.step (f := fun k => impl_fieldParts.j1 k s ⟨#[]⟩ false true) (fun k => ?_) ?_
        · rw [j0_eq, if_neg (by decide), Lib.toList_data, if_pos hne]
        · refine Ev.step (f := fun _ => some (([] : List ByteArray), (⟨#[]⟩ : ByteArray), true)) (fun k => ?_) (Ev.now _)
          rfl
      · have hf : fieldS s.data.toList = okS s.data.toList := by unfold fieldS; rw [if_neg hne, if_neg h64]
        have hok := steps_okS s (by omega)
        rw [hf, ← hok]
        refine ⟨((implSteps s).1, ⟨#[]⟩, (implSteps s).2.2 && !(implSteps s).2.1), hhead _ ?_, rfl⟩
        refine Ev.step (f := fun k => impl_fieldParts.j1 k s ⟨#[]⟩ false false) (fun k => ?_) ?_
        · rw [j0_eq, if_neg (by decide), Lib.toList_data, if_neg hne, if_neg (by decide)]
        · refine Ev.step (f := fun k => (impl_stepsOf.f k s).bind fun bt198 => (if bt198.2.2 = true then (some (bt198.1, (⟨#[]⟩ : ByteArray), !bt198.2.1)) else (some (bt198.1, (⟨#[]⟩ : ByteArray), false)))) (fun k => ?_) ?_
          · rfl
          · refine Ev.bind (impl_steps s hs) ?_
            cases (implSteps s).2.2 with
            | true => exact Ev.now _
            | false => exact Ev.now _
end Go.Proofs.YtdicaljeegaieaaDoor.Pure

namespace Go.Proofs.YtdicaljeegaieaaDoor.O
open Go.RowKit Go.Proofs.YtdicaljeegaieaaDoor.L Go.Proofs.YtdicaljeegaieaaDoorW.PrintWords Go.Proofs.YtdicaljeegaieaaDoorW.PrintLast Go.Proofs.YtdicaljeegaieaaDoorW.PrintMore
set_option linter.unusedVariables false
set_option linter.unusedSimpArgs false

/-- Whatever reads as a datum of type t is a d, and is ok. -/
def Opens {H α : Type} (enc : TypeId × Value → H) (P : Program) (w : World) (base : Nat) (sp : Nat → Bool) (held : Bool) (t : TypeId) (d : Kd α) (ok : α → Prop) : Prop :=
  ∀ n cs x, DataW.trod enc P w base sp held n t cs = some x → ∃ a, d.K w a cs ∧ ok a
section
variable {H : Type} {enc : TypeId × Value → H} {P : Program} {w : World} {base : Nat} {sp : Nat → Bool} {held : Bool} {t : TypeId}
theorem opens_string (ht : P.underlying t = some .string) : Opens enc P w base sp held t Kd.string (fun s => s.size ≤ maxLen) := by
  intro n cs x h
  obtain ⟨s, rfl, _, hs⟩ := DataW.trod_string ht h
  exact ⟨s, rfl, hs⟩
theorem opens_int {k : IntKind} (ht : P.underlying t = some (.int k)) : Opens enc P w base sp held t (Kd.int k) (fun n => (Lit.int k n).wf = true) := by
  intro n cs x h
  obtain ⟨s, rfl, _, hs⟩ := DataW.trod_int ht h
  exact ⟨s, rfl, hs⟩
theorem rows_of {α : Type} {d : Kd α} {ok : α → Prop} {a : Addr} (len : Nat) (h : ∀ i, i < len → ∃ cs x, w.cells? base (a.add (i * d.sz)) d.sz = some cs ∧ d.K w x cs ∧ ok x) :
    ∃ xs : List α, xs.length = len ∧ ∀ i x, xs[i]? = some x → ok x ∧ ∃ cs, w.cells? base (a.add (i * d.sz)) d.sz = some cs ∧ d.K w x cs := by
  induction len with
  | zero => exact ⟨[], rfl, fun i x hx => by simp at hx⟩
  | succ m ih =>
    obtain ⟨xs, hl, hx⟩ := ih fun i hi => h i (by omega)
    obtain ⟨cs, x, hc, hk, ho⟩ := h m (by omega)
    refine ⟨xs ++ [x], by simp [hl], fun i y hy => ?_⟩
    by_cases hi : i < m
    · rw [List.getElem?_append_left (by omega)] at hy
      exact hx i y hy
    · have hlt := (List.getElem?_eq_some_iff.1 hy).1
      simp only [List.length_append, List.length_singleton, hl] at hlt
      have : i = m := by omega
      subst this
      rw [List.getElem?_append_right (by omega), hl] at hy
      simp at hy
      subst hy
      exact ⟨ho, cs, hc, hk⟩
theorem opens_slice {α : Type} {e : TypeId} {d : Kd α} {ok : α → Prop} (e' : Nat) (ht : P.underlying t = some (.slice e)) (hc : P.cellsOf e = d.sz)
    (ho : Opens enc P w base sp held e d ok) : Opens enc P w base sp held t (Kd.slice e' d) (fun xs => xs.length ≤ maxLen ∧ ∀ x ∈ xs, ok x) := by
  intro n cs x h
  rcases DataW.trod_slice ht h with ⟨rfl, _⟩ | ⟨a, len, cap, elems, rest, m, _, rfl, _, hb, hl, hm, hlen, hel, _, _⟩
  · exact ⟨[], ⟨none, 0, rfl, by simp, Kd.C_nil d w⟩, by simp [maxLen], fun x hx => by cases hx⟩
  · rw [hc] at hel
    obtain ⟨xs, hxl, hx⟩ := rows_of (w := w) (base := base) (d := d) (ok := ok) (a := a) len (fun i hi => by
      have h1 := hel i hi
      rw [List.getElem?_eq_getElem (by omega), Option.bind_eq_some_iff] at h1
      obtain ⟨cs, hcs, htr⟩ := h1
      obtain ⟨y, hk, hok⟩ := ho m cs _ htr
      exact ⟨cs, y, hcs, hk, hok⟩)
    refine ⟨xs, ⟨some a, cap, by rw [hxl], by omega, ?_⟩, by omega, fun x hx' => ?_⟩
    · refine ⟨rfl, by unfold maxLen at hm; omega, fun _ => ⟨a, rfl, fun j p hp => ?_⟩⟩
      obtain ⟨_, cs, hcs, hk⟩ := hx j p hp
      obtain ⟨_, hcl, hcell⟩ := World.cells?_some hcs
      refine ⟨cs, hcl, hk, fun i u hu => ?_⟩
      have hlt := (List.getElem?_eq_some_iff.1 hu).1
      have := hcell i (by omega)
      rw [hu] at this
      rw [← this]
      have e : a.add (j * d.sz + i) = (a.add (j * d.sz)).add i := (Addr.add_add a _ _).symm
      rw [e]
    · obtain ⟨i, hi⟩ := List.getElem?_of_mem hx'
      exact (hx i x hi).1
/-- A struct's fields, one cell each. -/
theorem field_cell {fs : Array Field} {cs : List Value} {x : DataW H × List MemPlace} {fuel : Nat} (ht : P.underlying t = some (.struct fs)) (h : DataW.trod enc P w base sp held fuel t cs = some x)
    (i : Nat) (f : Field) (hf : fs[i]? = some f) (hof : f.offset = i) (hcf : P.cellsOf f.type = 1) : ∃ n y, DataW.trod enc P w base sp held n f.type ((cs.drop i).take 1) = some y := by
  obtain ⟨xs, n, _, _, _, hxl, hall⟩ := DataW.trod_struct ht h
  have := hall i f hf
  have hlt := (Array.getElem?_eq_some_iff.1 hf).1
  rw [hof, hcf, List.getElem?_eq_getElem (by omega)] at this
  exact ⟨n, _, this⟩
end
/-- What a key's mirror that came in reads as. -/
def okKey (x : S71) : Prop := x.f0.size ≤ maxLen ∧ x.f2.size ≤ maxLen ∧ x.f3.size ≤ maxLen ∧ (x.f4.length ≤ maxLen ∧ ∀ s ∈ x.f4, s.size ≤ maxLen) ∧ x.f5.size ≤ maxLen ∧ (Lit.int .i64 x.f1).wf = true
theorem opens_key {H : Type} {enc : TypeId × Value → H} {w : World} {base : Nat} {sp : Nat → Bool} {held : Bool} :
    Opens enc Tryd.prog w base sp held 71 k71 okKey := by
  intro n cs x h
  have hl : cs.length = 6 := by
    obtain ⟨_, _, _, _, hcl, _, _⟩ := DataW.trod_struct Tryd.underlying71 h
    exact hcl.trans (by kernel_rfl)
  obtain ⟨n0, y0, h0⟩ := field_cell Tryd.underlying71 h 0 _ rfl rfl (by kernel_rfl)
  obtain ⟨n1, y1, h1⟩ := field_cell Tryd.underlying71 h 1 _ rfl rfl (by kernel_rfl)
  obtain ⟨n2, y2, h2⟩ := field_cell Tryd.underlying71 h 2 _ rfl rfl (by kernel_rfl)
  obtain ⟨n3, y3, h3⟩ := field_cell Tryd.underlying71 h 3 _ rfl rfl (by kernel_rfl)
  obtain ⟨n4, y4, h4⟩ := field_cell Tryd.underlying71 h 4 _ rfl rfl (by kernel_rfl)
  obtain ⟨n5, y5, h5⟩ := field_cell Tryd.underlying71 h 5 _ rfl rfl (by kernel_rfl)
  clear h
  obtain ⟨s0, e0, o0⟩ := opens_string (enc := enc) (base := base) (sp := sp) (held := held) (w := w) Tryd.underlying9 _ _ _ h0
  obtain ⟨s1, e1, o1⟩ := opens_int (enc := enc) (base := base) (sp := sp) (held := held) (w := w) (k := .i64) Tryd.underlying2 _ _ _ h1
  obtain ⟨s2, e2, o2⟩ := opens_string (enc := enc) (base := base) (sp := sp) (held := held) (w := w) Tryd.underlying9 _ _ _ h2
  obtain ⟨s3, e3, o3⟩ := opens_string (enc := enc) (base := base) (sp := sp) (held := held) (w := w) Tryd.underlying9 _ _ _ h3
  obtain ⟨s4, ⟨A4, c4, e4, l4, g4⟩, o4⟩ := opens_slice (enc := enc) (base := base) (sp := sp) (held := held) (w := w) 9 Tryd.underlying66 (by kernel_rfl) (opens_string Tryd.underlying9) _ _ _ h4
  obtain ⟨s5, e5, o5⟩ := opens_string (enc := enc) (base := base) (sp := sp) (held := held) (w := w) Tryd.underlying9 _ _ _ h5
  match cs, hl with
  | [c0, c1, c2, c3, c4', c5], _ =>
    obtain rfl : c0 = Value.string s0 := (List.cons.inj (show [c0] = [Value.string s0] from e0)).1
    obtain rfl : c1 = Value.int .i64 s1 := (List.cons.inj (show [c1] = [Value.int .i64 s1] from e1)).1
    obtain rfl : c2 = Value.string s2 := (List.cons.inj (show [c2] = [Value.string s2] from e2)).1
    obtain rfl : c3 = Value.string s3 := (List.cons.inj (show [c3] = [Value.string s3] from e3)).1
    obtain rfl : c4' = Value.slice A4 s4.length c4 := (List.cons.inj (show [c4'] = [Value.slice A4 s4.length c4] from e4)).1
    obtain rfl : c5 = Value.string s5 := (List.cons.inj (show [c5] = [Value.string s5] from e5)).1
    exact ⟨⟨s0, s1, s2, s3, s4, s5⟩, k71_mk w ⟨s0, s1, s2, s3, s4, s5⟩ l4 g4, o0, o2, o3, o4, o5, o1⟩
end Go.Proofs.YtdicaljeegaieaaDoor.O

namespace Go.Proofs.YtdicaljeegaieaaDoor.Pure
open Go.RowKit Go.Proofs.YtdicaljeegaieaaDoor.L Go.Proofs.YtdicaljeegaieaaDoor.O Go.Proofs.YtdicaljeegaieaaDoorW.PrintWords Go.Proofs.YtdicaljeegaieaaDoorW.PrintLast Go.Proofs.YtdicaljeegaieaaDoorW.PrintMore
set_option linter.unusedVariables false
set_option linter.unusedSimpArgs false

theorem rdB (l : List ByteArray) (i : Nat) (h : i < l.length) : rdOf ByteArray.empty l (i : Int) = l[i] := by
  unfold rdOf
  simp [h]
theorem rd1 (l : List S71) (i : Nat) (h : i < l.length) : rd_T71 l (i : Int) = l[i] := by
  unfold rd_T71
  simp [h]
theorem rd2 (l : List S72) (i : Nat) (h : i < l.length) : rd_T72 l (i : Int) = l[i] := by
  unfold rd_T72
  simp [h]
theorem w64s {i m : Nat} (h : i < m) (hm : m ≤ 9223372036854775807) : wrap64 ((i : Int) + 1) = ((i + 1 : Nat) : Int) := by rw [w64] <;> omega
theorem wsub {c : Int} {m : Nat} (h0 : 0 ≤ c) (h1 : c ≤ 1048576) (hm : m ≤ 9223372036854775807) : wrap64 (c - (m : Int)) = c - m := by rw [w64] <;> omega

/-! #### sizes -/
theorem szS_l0 (l : List ByteArray) (hl : l.length ≤ 9223372036854775807) (hs : ∀ s ∈ l, s.size ≤ 9223372036854775807) : ∀ (n i : Nat) (c : Int), i + n = l.length → 0 ≤ c → c ≤ 1048576 →
    ∃ v, Ev (fun k => laws_szStringS.l0 k l c (i : Int)) v ∧ (v < 0 ∨ (0 ≤ v ∧ v ≤ c ∧ ∀ s ∈ l.drop i, s.size ≤ 1048576)) := by
  intro n
  induction n with
  | zero =>
    intro i c hi h0 h1
    refine ⟨c, Ev.step (f := fun _ => some c) (fun k => ?_) (Ev.now _), .inr ⟨h0, Int.le_refl _, ?_⟩⟩
    · unfold laws_szStringS.l0
      rw [if_neg (by omega)]
    · rw [List.drop_of_length_le (by omega)]; intro s hs; cases hs
  | succ n ih =>
    intro i c hi h0 h1
    have hlt : i < l.length := by omega
    have hsz := hs l[i] (List.getElem_mem hlt)
    have hw := wsub h0 h1 hsz
    by_cases c0 : c - (l[i].size : Int) < 0
    · refine ⟨-1, Ev.step (f := fun _ => some (-1)) (fun k => ?_) (Ev.now _), .inl (by decide)⟩
      conv => lhs; unfold laws_szStringS.l0
      rw [if_pos (by omega), if_pos (by omega), rdB l i hlt, hw, if_pos c0]
    · obtain ⟨v, hv, hr⟩ := ih (i + 1) (c - (l[i].size : Int)) (by omega) (by omega) (by omega)
      refine ⟨v, Ev.step (f := fun k => laws_szStringS.l0 k l (c - (l[i].size : Int)) ((i + 1 : Nat) : Int)) (fun k => ?_) hv, ?_⟩
      · conv => lhs; unfold laws_szStringS.l0
        rw [if_pos (by omega), if_pos (by omega), rdB l i hlt, hw, if_neg c0, w64s hlt hl]
      · rcases hr with h | ⟨a, b, d⟩
        · exact .inl h
        · refine .inr ⟨a, by omega, fun s hs => ?_⟩
          rw [List.drop_eq_getElem_cons hlt] at hs
          rcases List.mem_cons.1 hs with e | e
          · subst e; omega
          · exact d s e
def smallS (l : List ByteArray) : Prop := l.length ≤ 1048576 ∧ ∀ s ∈ l, s.size ≤ 1048576
theorem szS (l : List ByteArray) (hl : l.length ≤ 9223372036854775807) (hs : ∀ s ∈ l, s.size ≤ 9223372036854775807) (c : Int) (h0 : 0 ≤ c) (h1 : c ≤ 1048576) :
    ∃ v, Ev (fun k => laws_szStringS.f k l c) v ∧ (v < 0 ∨ (0 ≤ v ∧ v ≤ c ∧ smallS l)) := by
  have hw := wsub h0 h1 hl
  by_cases c0 : c - (l.length : Int) < 0
  · refine ⟨-1, Ev.congr (f := fun _ => some (-1)) (fun k => ?_) (Ev.now _), .inl (by decide)⟩
    unfold laws_szStringS.f
    rw [hw, if_pos c0]
  · obtain ⟨v, hv, hr⟩ := szS_l0 l hl hs l.length 0 (c - (l.length : Int)) (by omega) (by omega) (by omega)
    refine ⟨v, Ev.congr (f := fun k => laws_szStringS.l0 k l (c - (l.length : Int)) ((0 : Nat) : Int)) (fun k => ?_) hv, ?_⟩
    · unfold laws_szStringS.f
      rw [hw, if_neg c0]
      rfl
    · rcases hr with h | ⟨a, b, d⟩
      · exact .inl h
      · exact .inr ⟨a, by omega, by omega, by simpa using d⟩
def smallK (x : S71) : Prop := x.f0.size ≤ 1048576 ∧ x.f2.size ≤ 1048576 ∧ x.f3.size ≤ 1048576 ∧ smallS x.f4 ∧ x.f5.size ≤ 1048576
theorem mx : maxLen = 9223372036854775807 := by decide
theorem szKey (x : S71) (ok : okKey x) (c : Int) (h0 : 0 ≤ c) (h1 : c ≤ 1048576) :
    ∃ v, Ev (fun k => laws_szKey.f k x.f0 x.f1 x.f2 x.f3 x.f4 x.f5 c) v ∧ (v < 0 ∨ (0 ≤ v ∧ v ≤ c ∧ smallK x)) := by
  obtain ⟨o0, o2, o3, ⟨o4, o4'⟩, o5, _⟩ := ok
  rw [mx] at o0 o2 o3 o4 o5
  have o4'' : ∀ s ∈ x.f4, s.size ≤ 9223372036854775807 := fun s hs => by have := o4' s hs; rwa [mx] at this
  have w0 := wsub h0 h1 o0
  by_cases c0 : c - (x.f0.size : Int) < 0
  · refine ⟨-1, Ev.congr (f := fun _ => some (-1)) (fun k => ?_) (Ev.now _), .inl (by decide)⟩
    unfold laws_szKey.f
    rw [w0, if_pos c0]
  · have w2 := wsub (c := c - (x.f0.size : Int)) (by omega) (by omega) o2
    by_cases c2 : c - (x.f0.size : Int) - (x.f2.size : Int) < 0
    · refine ⟨-1, Ev.congr (f := fun _ => some (-1)) (fun k => ?_) (Ev.now _), .inl (by decide)⟩
      unfold laws_szKey.f
      rw [w0, if_neg c0, w2, if_pos c2]
    · have w3 := wsub (c := c - (x.f0.size : Int) - (x.f2.size : Int)) (by omega) (by omega) o3
      by_cases c3 : c - (x.f0.size : Int) - (x.f2.size : Int) - (x.f3.size : Int) < 0
      · refine ⟨-1, Ev.congr (f := fun _ => some (-1)) (fun k => ?_) (Ev.now _), .inl (by decide)⟩
        unfold laws_szKey.f
        rw [w0, if_neg c0, w2, if_neg c2, w3, if_pos c3]
      · obtain ⟨v, hv, hr⟩ := szS x.f4 o4 o4'' (c - (x.f0.size : Int) - (x.f2.size : Int) - (x.f3.size : Int)) (by omega) (by omega)
        have hf : ∀ k, laws_szKey.f k x.f0 x.f1 x.f2 x.f3 x.f4 x.f5 c = (laws_szStringS.f k x.f4 (c - (x.f0.size : Int) - (x.f2.size : Int) - (x.f3.size : Int))).bind fun t130 => (if t130 < 0 then (some (-1)) else (if (wrap64 (t130 - (x.f5.size : Int))) < 0 then (some (-1)) else (some (wrap64 (t130 - (x.f5.size : Int)))))) := by
          intro k
          unfold laws_szKey.f
          rw [w0, if_neg c0, w2, if_neg c2, w3, if_neg c3]
        rcases hr with h | ⟨a, b, d⟩
        · refine ⟨-1, Ev.congr hf (Ev.bind hv ?_), .inl (by decide)⟩
          rw [if_pos h]
          exact Ev.now _
        · have w5 := wsub (c := v) a (by omega) o5
          by_cases c5 : v - (x.f5.size : Int) < 0
          · refine ⟨-1, Ev.congr hf (Ev.bind hv ?_), .inl (by decide)⟩
            rw [if_neg (by omega), w5, if_pos c5]
            exact Ev.now _
          · refine ⟨v - (x.f5.size : Int), Ev.congr hf (Ev.bind hv ?_), .inr ⟨by omega, by omega, by omega, by omega, by omega, d, by omega⟩⟩
            rw [if_neg (by omega), w5, if_neg c5]
            exact Ev.now _
theorem szKS_l0 (l : List S71) (hl : l.length ≤ 9223372036854775807) (hs : ∀ s ∈ l, okKey s) : ∀ (n i : Nat) (c : Int), i + n = l.length → 0 ≤ c → c ≤ 1048576 →
    ∃ v, Ev (fun k => laws_szKeyS.l0 k l c (i : Int)) v ∧ (v < 0 ∨ (0 ≤ v ∧ v ≤ c ∧ ∀ s ∈ l.drop i, smallK s)) := by
  intro n
  induction n with
  | zero =>
    intro i c hi h0 h1
    refine ⟨c, Ev.step (f := fun _ => some c) (fun k => ?_) (Ev.now _), .inr ⟨h0, Int.le_refl _, ?_⟩⟩
    · unfold laws_szKeyS.l0
      rw [if_neg (by omega)]
    · rw [List.drop_of_length_le (by omega)]; intro s hs; cases hs
  | succ n ih =>
    intro i c hi h0 h1
    have hlt : i < l.length := by omega
    obtain ⟨v, hv, hr⟩ := szKey l[i] (hs _ (List.getElem_mem hlt)) c h0 h1
    have hf : ∀ k, laws_szKeyS.l0 (k + 1) l c (i : Int) = (laws_szKey.f k l[i].f0 l[i].f1 l[i].f2 l[i].f3 l[i].f4 l[i].f5 c).bind fun t132 => (if t132 < 0 then (some (-1)) else (laws_szKeyS.l0 k l t132 ((i + 1 : Nat) : Int))) := by
      intro k
      conv => lhs; unfold laws_szKeyS.l0
      rw [if_pos (by omega), if_pos (by omega), rd1 l i hlt, w64s hlt hl]
    rcases hr with h | ⟨a, b, d⟩
    · refine ⟨-1, Ev.step hf (Ev.bind hv ?_), .inl (by decide)⟩
      simp only [if_pos h]
      exact Ev.now _
    · obtain ⟨v2, hv2, hr2⟩ := ih (i + 1) v (by omega) a (by omega)
      refine ⟨v2, Ev.step hf (Ev.bind hv ?_), ?_⟩
      · simp only [if_neg (show ¬ v < 0 by omega)]
        exact hv2
      · rcases hr2 with h | ⟨a2, b2, d2⟩
        · exact .inl h
        · refine .inr ⟨a2, by omega, fun s hs => ?_⟩
          rw [List.drop_eq_getElem_cons hlt] at hs
          rcases List.mem_cons.1 hs with e | e
          · subst e; exact d
          · exact d2 s e
theorem szKS (l : List S71) (hl : l.length ≤ 9223372036854775807) (hs : ∀ s ∈ l, okKey s) :
    ∃ v, Ev (fun k => laws_szKeyS.f k l 1048576) v ∧ (v < 0 ∨ (0 ≤ v ∧ l.length ≤ 1048576 ∧ ∀ s ∈ l, smallK s)) := by
  have hw := wsub (c := 1048576) (by decide) (by decide) hl
  by_cases c0 : (1048576 : Int) - (l.length : Int) < 0
  · refine ⟨-1, Ev.congr (f := fun _ => some (-1)) (fun k => ?_) (Ev.now _), .inl (by decide)⟩
    unfold laws_szKeyS.f
    rw [hw, if_pos c0]
  · obtain ⟨v, hv, hr⟩ := szKS_l0 l hl hs l.length 0 (1048576 - (l.length : Int)) (by omega) (by omega) (by omega)
    refine ⟨v, Ev.congr (f := fun k => laws_szKeyS.l0 k l (1048576 - (l.length : Int)) ((0 : Nat) : Int)) (fun k => ?_) hv, ?_⟩
    · unfold laws_szKeyS.f
      rw [hw, if_neg c0]
      rfl
    · rcases hr with h | ⟨a, b, d⟩
      · exact .inl h
      · exact .inr ⟨a, by omega, by simpa using d⟩

/-! #### copies -/
theorem set_mid {α : Type} (u : List α) (z v : α) (r : List α) : (u ++ z :: r).set u.length v = u ++ v :: r := by
  induction u with
  | nil => rfl
  | cons a u ih => simp [ih]
theorem set_copy {α β : Type} (f : α → β) (l : List α) (z : β) (i m : Nat) (h : i < l.length) : ((l.take i).map f ++ List.replicate (m + 1) z).set i (f l[i]) = (l.take (i + 1)).map f ++ List.replicate m z := by
  have hl : ((l.take i).map f).length = i := by simp; omega
  have := set_mid ((l.take i).map f) z (f l[i]) (List.replicate m z)
  rw [hl] at this
  rw [List.replicate_succ, this]
  rw [List.take_succ_eq_append_getElem h, List.map_append]
  simp
theorem toS_l0 (l : List ByteArray) (hl : l.length ≤ 9223372036854775807) : ∀ (n i : Nat), i + n = l.length →
    Ev (fun k => laws_toStringS.l0 k l ((l.take i).map id ++ List.replicate n (⟨#[]⟩ : ByteArray)) (i : Int)) l := by
  intro n
  induction n with
  | zero =>
    intro i hi
    have e : (l.take i).map id ++ List.replicate 0 (⟨#[]⟩ : ByteArray) = l := by rw [List.take_of_length_le (by omega)]; simp
    rw [e]
    refine Ev.step (f := fun _ => some l) (fun k => ?_) (Ev.now _)
    unfold laws_toStringS.l0
    rw [if_neg (by omega)]
  | succ n ih =>
    intro i hi
    have hlt : i < l.length := by omega
    refine Ev.step (f := fun k => laws_toStringS.l0 k l ((l.take (i + 1)).map id ++ List.replicate n (⟨#[]⟩ : ByteArray)) ((i + 1 : Nat) : Int)) (fun k => ?_) (ih (i + 1) (by omega))
    conv => lhs; unfold laws_toStringS.l0
    have hlen : ((l.take i).map id ++ List.replicate (n + 1) (⟨#[]⟩ : ByteArray)).length = l.length := by simp; omega
    rw [if_pos (by omega), if_pos (by omega), hlen, if_pos (by omega), rdB l i hlt, w64s hlt hl, Int.toNat_natCast]
    have := set_copy id l (⟨#[]⟩ : ByteArray) i n hlt
    rw [show id l[i] = l[i] from rfl] at this
    rw [this]
theorem toS (l : List ByteArray) (hl : l.length ≤ 1048576) : Ev (fun k => laws_toStringS.f k l) l := by
  refine Ev.congr (f := fun k => laws_toStringS.l0 k l ((l.take 0).map id ++ List.replicate l.length (⟨#[]⟩ : ByteArray)) ((0 : Nat) : Int)) (fun k => ?_) (toS_l0 l (by omega) l.length 0 (by omega))
  unfold laws_toStringS.f
  rw [if_pos (by omega), Int.toNat_natCast, if_pos (by omega)]
  simp
def conv (x : S71) : S72 := ⟨x.f0, x.f1, x.f2, x.f3, x.f4, x.f5⟩
theorem toKS_l0 (l : List S71) (hl : l.length ≤ 9223372036854775807) (hs : ∀ x ∈ l, smallK x) : ∀ (n i : Nat), i + n = l.length →
    Ev (fun k => laws_toKeyS.l0 k l ((l.take i).map conv ++ List.replicate n z72) (i : Int)) (l.map conv) := by
  intro n
  induction n with
  | zero =>
    intro i hi
    have e : (l.take i).map conv ++ List.replicate 0 z72 = l.map conv := by
      rw [List.take_of_length_le (by omega)]; simp
    rw [e]
    refine Ev.step (f := fun _ => some (l.map conv)) (fun k => ?_) (Ev.now _)
    unfold laws_toKeyS.l0
    rw [if_neg (by omega)]
  | succ n ih =>
    intro i hi
    have hlt : i < l.length := by omega
    have hx := hs l[i] (List.getElem_mem hlt)
    have hto := toS l[i].f4 hx.2.2.2.1.1
    have hlen : ((l.take i).map conv ++ List.replicate (n + 1) z72).length = l.length := by simp; omega
    have hset := set_copy conv l z72 i n hlt
    refine Ev.step (f := fun k => (laws_toStringS.f k l[i].f4).bind fun t168 => laws_toKeyS.l0 k l (((l.take i).map conv ++ List.replicate (n + 1) z72).set i (⟨l[i].f0, l[i].f1, l[i].f2, l[i].f3, t168, l[i].f5⟩ : S72)) ((i + 1 : Nat) : Int)) (fun k => ?_) ?_
    · conv => lhs; unfold laws_toKeyS.l0
      rw [if_pos (by omega), if_pos (by omega), hlen, rd1 l i hlt, w64s hlt hl, Int.toNat_natCast]
      unfold laws_toKey.f
      simp only [if_pos (show (i : Int) < (l.length : Int) by omega)]
      rw [Option.bind_assoc]
      rfl
    · refine Ev.bind hto ?_
      rw [show (⟨l[i].f0, l[i].f1, l[i].f2, l[i].f3, l[i].f4, l[i].f5⟩ : S72) = conv l[i] from rfl, hset]
      exact ih (i + 1) (by omega)
theorem toKS (l : List S71) (hl : l.length ≤ 1048576) (hs : ∀ x ∈ l, smallK x) : Ev (fun k => laws_toKeyS.f k l) (l.map conv) := by
  refine Ev.congr (f := fun k => laws_toKeyS.l0 k l ((l.take 0).map conv ++ List.replicate l.length z72) ((0 : Nat) : Int)) (fun k => ?_) (toKS_l0 l (by omega) hs l.length 0 (by omega))
  unfold laws_toKeyS.f
  rw [if_pos (by omega), Int.toNat_natCast, if_pos (by omega)]
  simp
theorem eqS_l0 (l : List ByteArray) (hl : l.length ≤ 9223372036854775807) : ∀ (n i : Nat), i + n = l.length → Ev (fun k => laws_eqStringS.l0 k l l (i : Int)) true := by
  intro n
  induction n with
  | zero =>
    intro i hi
    refine Ev.step (f := fun _ => some true) (fun k => ?_) (Ev.now _)
    unfold laws_eqStringS.l0
    rw [if_neg (by omega)]
  | succ n ih =>
    intro i hi
    have hlt : i < l.length := by omega
    refine Ev.step (f := fun k => laws_eqStringS.l0 k l l ((i + 1 : Nat) : Int)) (fun k => ?_) (ih (i + 1) (by omega))
    conv => lhs; unfold laws_eqStringS.l0
    rw [if_pos (by omega), if_pos (by omega), if_pos (by omega), if_pos rfl, w64s hlt hl]
theorem eqS (l : List ByteArray) (hl : l.length ≤ 1048576) : Ev (fun k => laws_eqStringS.f k l l) true := by
  refine Ev.congr (f := fun k => laws_eqStringS.l0 k l l ((0 : Nat) : Int)) (fun k => ?_) (eqS_l0 l (by omega) l.length 0 (by omega))
  unfold laws_eqStringS.f
  rw [if_pos rfl]
  rfl
theorem eqK (x : S72) (hl : x.f4.length ≤ 1048576) : Ev (fun k => laws_eqKey.f k x.f0 x.f1 x.f2 x.f3 x.f4 x.f5 x.f0 x.f1 x.f2 x.f3 x.f4 x.f5) true := by
  refine Ev.congr (f := fun k => (laws_eqStringS.f k x.f4 x.f4).bind fun t234 => (if t234 = true then (some true) else (some false))) (fun k => ?_) (Ev.bind (eqS x.f4 hl) (Ev.now _))
  unfold laws_eqKey.f
  rw [if_pos rfl, if_pos rfl, if_pos rfl, if_pos rfl]
  simp
theorem eqKS_l0 (l : List S72) (hl : l.length ≤ 9223372036854775807) (hs : ∀ x ∈ l, x.f4.length ≤ 1048576) : ∀ (n i : Nat), i + n = l.length → Ev (fun k => laws_eqKeyS.l0 k l l (i : Int)) true := by
  intro n
  induction n with
  | zero =>
    intro i hi
    refine Ev.step (f := fun _ => some true) (fun k => ?_) (Ev.now _)
    unfold laws_eqKeyS.l0
    rw [if_neg (by omega)]
  | succ n ih =>
    intro i hi
    have hlt : i < l.length := by omega
    refine Ev.step (f := fun k => (laws_eqKey.f k l[i].f0 l[i].f1 l[i].f2 l[i].f3 l[i].f4 l[i].f5 l[i].f0 l[i].f1 l[i].f2 l[i].f3 l[i].f4 l[i].f5).bind fun t237 => if t237 = true then laws_eqKeyS.l0 k l l ((i + 1 : Nat) : Int) else some false) (fun k => ?_) (Ev.bind (eqK l[i] (hs _ (List.getElem_mem hlt))) (ih (i + 1) (by omega)))
    conv => lhs; unfold laws_eqKeyS.l0
    rw [if_pos (by omega), if_pos (by omega), if_pos (by omega), rd2 l i hlt, w64s hlt hl]
theorem eqKS (l : List S72) (hl : l.length ≤ 1048576) (hs : ∀ x ∈ l, x.f4.length ≤ 1048576) : Ev (fun k => laws_eqKeyS.f k l l) true := by
  refine Ev.congr (f := fun k => laws_eqKeyS.l0 k l l ((0 : Nat) : Int)) (fun k => ?_) (eqKS_l0 l (by omega) hs l.length 0 (by omega))
  unfold laws_eqKeyS.f
  rw [if_pos rfl]
  rfl
def in13 (n : Int) : Bool := decide (1 ≤ n) && decide (n ≤ 3)
def len14 (m : Nat) : Bool := decide (1 ≤ m) && decide (m ≤ 4)
theorem spec_in13 (n : Int) : spec_l1In.f n 1 3 = some (in13 n) := by
  unfold spec_l1In.f in13
  by_cases h : 1 ≤ n
  · rw [if_pos h, decide_eq_true h, Bool.true_and]
  · rw [if_neg h, decide_eq_false h, Bool.false_and]
theorem impl_in13 (n : Int) : impl_in.f n 1 3 = some (in13 n) := by
  unfold impl_in.f in13
  by_cases h : 1 ≤ n
  · rw [if_pos h, decide_eq_true h, Bool.true_and]
  · rw [if_neg h, decide_eq_false h, Bool.false_and]
theorem impl_in14 (m : Nat) : impl_in.f (m : Int) 1 4 = some (len14 m) := by
  unfold impl_in.f len14
  by_cases h : 1 ≤ m
  · rw [if_pos (by omega), decide_eq_true h, Bool.true_and]
    congr 1
    simp only [decide_eq_decide]
    omega
  · rw [if_neg (by omega), decide_eq_false h, Bool.false_and]
def fB (s : ByteArray) : Bool := fieldB s.data.toList
def nm (x y : S72) : Bool := y.f0.toList == x.f0.toList
def headB (x : S72) : Bool := nameB x.f0.data.toList && (in13 x.f1 && (nameB x.f2.data.toList && (pathB x.f3.data.toList && len14 x.f4.length)))
def lastB (b : Bool) (x : S72) : Bool := !(b != (x.f1 == 3)) && ((x.f1 == 3) || (x.f5.toList == []))
def specK : List S72 → List S72 → Bool
  | _, [] => true
  | P, x :: t => headB x && (x.f4.all fB && (!(P.any (nm x)) && (lastB (P.any (refP x)) x && specK (P ++ [x]) t)))
def small2 (x : S72) : Prop := x.f0.size ≤ 1048576 ∧ x.f2.size ≤ 1048576 ∧ x.f3.size ≤ 1048576 ∧ smallS x.f4 ∧ x.f5.size ≤ 1048576

/-! #### the reference -/
theorem j1_bad (l : List S72) (i : Int) (x : S72) : Ev (fun k => spec_KeysOk.j1 k l i true x.f0 x.f1 x.f2 x.f3 x.f4 x.f5) false := by
  refine Ev.step (f := fun _ => some false) (fun k => ?_) (Ev.now _)
  conv => lhs; unfold spec_KeysOk.j1
  rw [if_pos rfl]
theorem j1_ok (l : List S72) (i : Int) (x : S72) (r : Bool) (h : Ev (fun k => spec_KeysOk.l1 k l i 0 x.f0 x.f1 x.f2 x.f3 x.f4 x.f5) r) : Ev (fun k => spec_KeysOk.j1 k l i false x.f0 x.f1 x.f2 x.f3 x.f4 x.f5) r := by
  refine Ev.step (f := fun k => spec_KeysOk.l1 k l i 0 x.f0 x.f1 x.f2 x.f3 x.f4 x.f5) (fun k => ?_) h
  conv => lhs; unfold spec_KeysOk.j1
  rw [if_neg (by decide)]
def fin (l : List S72) (i : Nat) (x : S72) (b : Bool) (k : Nat) : Option Bool := if (b != (x.f1 == 3)) = true then some false else (if x.f1 = 3 then spec_KeysOk.l0 k l ((i + 1 : Nat) : Int) else (if x.f5.toList = ([] : List UInt8) then spec_KeysOk.l0 k l ((i + 1 : Nat) : Int) else some false))
theorem l2_next (l : List S72) (i j : Nat) (x : S72) (b : Bool) (k : Nat) (hj : j < i) (hi : i < l.length) (hl : l.length ≤ 1048576) (hn : nm x l[j] = false) :
    spec_KeysOk.l2 (k + 1) l (i : Int) b (j : Int) x.f0 x.f1 x.f2 x.f3 x.f4 x.f5 = spec_KeysOk.l2 k l (i : Int) (b || refP x l[j]) ((j + 1 : Nat) : Int) x.f0 x.f1 x.f2 x.f3 x.f4 x.f5 := by
  conv => lhs; unfold spec_KeysOk.l2
  have hjl : j < l.length := by omega
  have hn' : ¬ (l[j].f0.toList = x.f0.toList) := by unfold nm at hn; simpa using hn
  rw [if_pos (by omega), if_pos (by omega), if_pos (by omega), rd2 l j hjl, w64s hjl (by omega), if_neg hn']
  cases b with
  | true => rw [if_pos rfl, Bool.true_or]
  | false =>
    rw [if_neg (by decide), Bool.false_or]
    unfold refP
    by_cases c0 : l[j].f0.toList = x.f5.toList
    · rw [if_pos c0, c0]
      by_cases c1 : l[j].f1 = 3
      · rw [if_pos c1, c1]
        simp
      · rw [if_neg c1]
        have e1 : (l[j].f1 != 3) = true := by simpa using c1
        by_cases c2 : l[j].f4.length = x.f4.length
        · rw [if_pos (by omega), e1, c2]
          simp
        · rw [if_neg (by omega)]
          have e2 : (l[j].f4.length == x.f4.length) = false := by simpa using c2
          rw [e2]
          simp
    · rw [if_neg c0]
      have e0 : (l[j].f0.toList == x.f5.toList) = false := by simpa using c0
      rw [e0]
      simp
theorem l2_ev (l : List S72) (i : Nat) (x : S72) (hi : i < l.length) (hl : l.length ≤ 1048576) (r : Bool) : ∀ (n j : Nat) (b : Bool), j + n = i →
    (((l.take i).drop j).any (nm x) = true → r = false) → (((l.take i).drop j).any (nm x) = false → Ev (fun k => fin l i x (b || ((l.take i).drop j).any (refP x)) k) r) →
    Ev (fun k => spec_KeysOk.l2 k l (i : Int) b (j : Int) x.f0 x.f1 x.f2 x.f3 x.f4 x.f5) r := by
  intro n
  induction n with
  | zero =>
    intro j b hj h1 h2
    have e : (l.take i).drop j = [] := List.drop_of_length_le (by rw [List.length_take]; omega)
    rw [e] at h2
    have h3 := h2 rfl
    refine Ev.step (f := fun k => fin l i x b k) (fun k => ?_) (by simpa using h3)
    conv => lhs; unfold spec_KeysOk.l2
    rw [if_neg (by omega), w64s hi (by omega)]
    rfl
  | succ n ih =>
    intro j b hj h1 h2
    have hjl : j < l.length := by omega
    have hjt : j < (l.take i).length := by rw [List.length_take]; omega
    have e : (l.take i).drop j = l[j] :: (l.take i).drop (j + 1) := by
      rw [List.drop_eq_getElem_cons hjt]
      simp
    rw [e] at h1 h2
    simp only [List.any_cons] at h1 h2
    cases hn : nm x l[j] with
    | true =>
      have hr := h1 (by rw [hn, Bool.true_or])
      subst hr
      refine Ev.step (f := fun _ => some false) (fun k => ?_) (Ev.now _)
      have hn' : l[j].f0.toList = x.f0.toList := by unfold nm at hn; simpa using hn
      conv => lhs; unfold spec_KeysOk.l2
      rw [if_pos (by omega), if_pos (by omega), if_pos (by omega), rd2 l j hjl, if_pos hn']
    | false =>
      rw [hn] at h1 h2
      simp only [Bool.false_or] at h1 h2
      refine Ev.step (fun k => l2_next l i j x b k (by omega) hi hl hn) (ih (j + 1) (b || refP x l[j]) (by omega) h1 fun h => ?_)
      have := h2 h
      rwa [Bool.or_assoc]
theorem l1_ev (l : List S72) (i : Nat) (x : S72) (hx : smallS x.f4) (r : Bool) : ∀ (n j : Nat), j + n = x.f4.length →
    ((x.f4.drop j).all fB = false → r = false) → ((x.f4.drop j).all fB = true → Ev (fun k => spec_KeysOk.l2 k l (i : Int) false ((0 : Nat) : Int) x.f0 x.f1 x.f2 x.f3 x.f4 x.f5) r) →
    Ev (fun k => spec_KeysOk.l1 k l (i : Int) (j : Int) x.f0 x.f1 x.f2 x.f3 x.f4 x.f5) r := by
  intro n
  induction n with
  | zero =>
    intro j hj h1 h2
    rw [List.drop_of_length_le (by omega)] at h2
    refine Ev.step (f := fun k => spec_KeysOk.l2 k l (i : Int) false ((0 : Nat) : Int) x.f0 x.f1 x.f2 x.f3 x.f4 x.f5) (fun k => ?_) (h2 rfl)
    conv => lhs; unfold spec_KeysOk.l1
    rw [if_neg (by omega)]
    rfl
  | succ n ih =>
    intro j hj h1 h2
    have hlt : j < x.f4.length := by omega
    have hs : x.f4[j].data.toList.length ≤ 1048576 := by rw [← sz]; exact hx.2 _ (List.getElem_mem hlt)
    obtain ⟨v, hv, hr⟩ := spec_field x.f4[j] hs
    have hf : ∀ k, spec_KeysOk.l1 (k + 1) l (i : Int) (j : Int) x.f0 x.f1 x.f2 x.f3 x.f4 x.f5 = (spec_l11Field.f k x.f4[j]).bind fun bt151 => (if bt151.2.2 = true then (if (x.f4[j].size : Int) > 20000 then (some false) else (spec_KeysOk.l1 k l (i : Int) ((j + 1 : Nat) : Int) x.f0 x.f1 x.f2 x.f3 x.f4 x.f5)) else (some false)) := by
      intro k
      conv => lhs; unfold spec_KeysOk.l1
      rw [if_pos (by omega), if_pos (by omega), rdB x.f4 j hlt, w64s hlt (by have := hx.1; omega)]
    rw [List.drop_eq_getElem_cons hlt, List.all_cons] at h1 h2
    refine Ev.step hf (Ev.bind hv ?_)
    rw [hr]
    cases hfs : fieldS x.f4[j].data.toList with
    | false =>
      have e : fB x.f4[j] = false := by unfold fB fieldB; rw [hfs, Bool.and_false]
      rw [e, Bool.false_and] at h1
      rw [h1 rfl]
      simp only [Bool.false_eq_true, if_false]
      exact Ev.now _
    | true =>
      simp only [if_true]
      by_cases hb : x.f4[j].data.toList.length ≤ 20000
      · have e : fB x.f4[j] = true := by unfold fB fieldB; rw [hfs, decide_eq_true hb]; rfl
        rw [e, Bool.true_and] at h1 h2
        have := ih (j + 1) (by omega) h1 h2
        simp only [if_neg (show ¬ (x.f4[j].size : Int) > 20000 by rw [sz]; omega)]
        exact this
      · have e : fB x.f4[j] = false := by unfold fB fieldB; rw [decide_eq_false hb, Bool.false_and]
        rw [e, Bool.false_and] at h1
        rw [h1 rfl]
        simp only [if_pos (show (x.f4[j].size : Int) > 20000 by rw [sz]; omega)]
        exact Ev.now _
theorem fin_ev (l : List S72) (i : Nat) (x : S72) (b : Bool) (r : Bool) (h : Ev (fun k => spec_KeysOk.l0 k l ((i + 1 : Nat) : Int)) r) : Ev (fun k => fin l i x b k) (lastB b x && r) := by
  unfold fin lastB
  cases h1 : (b != (x.f1 == 3)) with
  | true =>
    simp only [if_true, Bool.not_true, Bool.false_and]
    exact Ev.now _
  | false =>
    simp only [Bool.false_eq_true, if_false, Bool.not_false, Bool.true_and]
    by_cases h2 : x.f1 = 3
    · simp only [if_pos h2]
      rw [h2]
      simpa using h
    · have e2 : (x.f1 == 3) = false := by simpa using h2
      simp only [if_neg h2]
      rw [e2, Bool.false_or]
      by_cases h3 : x.f5.toList = []
      · simp only [if_pos h3]
        rw [h3]
        simpa using h
      · have e3 : (x.f5.toList == []) = false := by simpa using h3
        simp only [if_neg h3]
        rw [e3, Bool.false_and]
        exact Ev.now _
theorem spec_l0 (l : List S72) (hl : l.length ≤ 1048576) (hs : ∀ x ∈ l, small2 x) : ∀ (n i : Nat), i + n = l.length → Ev (fun k => spec_KeysOk.l0 k l (i : Int)) (specK (l.take i) (l.drop i)) := by
  intro n
  induction n with
  | zero =>
    intro i hi
    rw [List.drop_of_length_le (by omega)]
    refine Ev.step (f := fun _ => some true) (fun k => ?_) (Ev.now _)
    unfold spec_KeysOk.l0
    rw [if_neg (by omega)]
  | succ n ih =>
    intro i hi
    have hlt : i < l.length := by omega
    obtain ⟨x, hx⟩ : ∃ x, l[i] = x := ⟨_, rfl⟩
    have hsx : small2 x := by rw [← hx]; exact hs _ (List.getElem_mem hlt)
    have hih := ih (i + 1) (by omega)
    rw [List.take_succ_eq_append_getElem hlt, hx] at hih
    rw [List.drop_eq_getElem_cons hlt, hx]
    have hf : ∀ k, spec_KeysOk.l0 (k + 1) l (i : Int) = (spec_NameOk.f k x.f0).bind fun t146 => (if t146 = true then ((spec_l1In.f x.f1 1 3).bind fun t147 => (if t147 = true then ((spec_NameOk.f k x.f2).bind fun t148 => (if t148 = true then ((spec_PathOk.f k x.f3).bind fun t149 => (if t149 = true then (if (x.f4.length : Int) < 1 then (spec_KeysOk.j1 k l (i : Int) true x.f0 x.f1 x.f2 x.f3 x.f4 x.f5) else (spec_KeysOk.j1 k l (i : Int) (decide ((x.f4.length : Int) > 4)) x.f0 x.f1 x.f2 x.f3 x.f4 x.f5)) else (spec_KeysOk.j1 k l (i : Int) true x.f0 x.f1 x.f2 x.f3 x.f4 x.f5))) else (spec_KeysOk.j1 k l (i : Int) true x.f0 x.f1 x.f2 x.f3 x.f4 x.f5))) else (spec_KeysOk.j1 k l (i : Int) true x.f0 x.f1 x.f2 x.f3 x.f4 x.f5))) else (spec_KeysOk.j1 k l (i : Int) true x.f0 x.f1 x.f2 x.f3 x.f4 x.f5)) := by
      intro k
      conv => lhs; unfold spec_KeysOk.l0
      rw [if_pos (by omega), if_pos (by omega), rd2 l i hlt, hx]
    obtain ⟨r, hr⟩ : ∃ r, specK (l.take i) (x :: l.drop (i + 1)) = r := ⟨_, rfl⟩
    rw [hr]
    have hbad : headB x = false → r = false := fun h => by rw [← hr]; unfold specK; rw [h, Bool.false_and]
    refine Ev.step hf (Ev.bind (spec_name x.f0) ?_)
    cases c0 : nameB x.f0.data.toList with
    | false =>
      rw [hbad (by unfold headB; rw [c0, Bool.false_and])]
      simp only [Bool.false_eq_true, if_false]
      exact j1_bad l i x
    | true =>
      simp only [if_true]
      rw [spec_in13]
      simp only [Option.bind_some]
      cases c1 : in13 x.f1 with
      | false =>
        rw [hbad (by unfold headB; rw [c1, Bool.false_and, Bool.and_false])]
        simp only [Bool.false_eq_true, if_false]
        exact j1_bad l i x
      | true =>
        simp only [if_true]
        refine Ev.bind (spec_name x.f2) ?_
        cases c2 : nameB x.f2.data.toList with
        | false =>
          rw [hbad (by unfold headB; rw [c2, Bool.false_and, Bool.and_false, Bool.and_false])]
          simp only [Bool.false_eq_true, if_false]
          exact j1_bad l i x
        | true =>
          simp only [if_true]
          refine Ev.bind (spec_path x.f3 (by rw [← sz]; exact hsx.2.2.1)) ?_
          cases c3 : pathB x.f3.data.toList with
          | false =>
            rw [hbad (by unfold headB; rw [c3, Bool.false_and, Bool.and_false, Bool.and_false, Bool.and_false])]
            simp only [Bool.false_eq_true, if_false]
            exact j1_bad l i x
          | true =>
            simp only [if_true]
            by_cases c4 : 1 ≤ x.f4.length
            · simp only [if_neg (show ¬ (x.f4.length : Int) < 1 by omega)]
              by_cases c5 : x.f4.length ≤ 4
              · have e5 : decide ((x.f4.length : Int) > 4) = false := decide_eq_false (by omega)
                rw [e5]
                have hh : headB x = true := by unfold headB len14; rw [c0, c1, c2, c3, decide_eq_true c4, decide_eq_true c5]; rfl
                refine j1_ok l i x r ?_
                refine l1_ev l i x hsx.2.2.2.1 r x.f4.length 0 (by omega) (fun h => ?_) (fun h => ?_)
                · rw [List.drop_zero] at h
                  rw [← hr]; unfold specK; rw [h, Bool.false_and, Bool.and_false]
                · rw [List.drop_zero] at h
                  refine l2_ev l i x hlt hl r i 0 false (by omega) (fun h2 => ?_) (fun h2 => ?_)
                  · rw [List.drop_zero] at h2
                    rw [← hr]; unfold specK; rw [h2]; simp
                  · rw [List.drop_zero] at h2 ⊢
                    rw [Bool.false_or]
                    have := fin_ev l i x ((l.take i).any (refP x)) _ hih
                    rw [← hr]; unfold specK
                    rw [hh, h, h2]
                    simpa using this
              · have e5 : decide ((x.f4.length : Int) > 4) = true := decide_eq_true (by omega)
                rw [e5, hbad (by unfold headB len14; rw [decide_eq_false c5]; simp)]
                exact j1_bad l i x
            · simp only [if_pos (show (x.f4.length : Int) < 1 by omega)]
              rw [hbad (by unfold headB len14; rw [decide_eq_false c4]; simp)]
              exact j1_bad l i x
theorem spec_keys (l : List S72) (hl : l.length ≤ 1048576) (hs : ∀ x ∈ l, small2 x) : Ev (fun k => spec_KeysOk.f k l) (decide (l.length ≤ 10) && specK [] l) := by
  by_cases c : l.length ≤ 10
  · rw [decide_eq_true c, Bool.true_and]
    refine Ev.congr (f := fun k => spec_KeysOk.l0 k l ((0 : Nat) : Int)) (fun k => ?_) (by simpa using spec_l0 l hl hs l.length 0 (by omega))
    unfold spec_KeysOk.f
    rw [if_neg (by omega)]
    rfl
  · rw [decide_eq_false c, Bool.false_and]
    refine Ev.congr (f := fun _ => some false) (fun k => ?_) (Ev.now _)
    unfold spec_KeysOk.f
    rw [if_pos (by omega)]
end Go.Proofs.YtdicaljeegaieaaDoor.Pure

namespace Go.Proofs.YtdicaljeegaieaaDoor.L
open Go.RowKit Go.Proofs.YtdicaljeegaieaaDoor.O Go.Proofs.YtdicaljeegaieaaDoorW.PrintWords Go.Proofs.YtdicaljeegaieaaDoorW.PrintLast Go.Proofs.YtdicaljeegaieaaDoorW.PrintMore
set_option linter.unusedVariables false
def laws_FnExactKeysOk.Pure : Prop := ∀ (l : List S71), l.length ≤ 9223372036854775807 → (∀ x ∈ l, okKey x) → ∃ k, laws_FnExactKeysOk.f k l = some true
theorem laws_FnExactKeysOk.walk (P : laws_FnExactKeysOk.Pure) (A0 : Option Addr) (c0 : Nat) (l : List S71) (w : World) (hT : Gl w) (hr : Kd.C k71 w A0 l.length l) (hc : l.length ≤ c0) (hl : l.length ≤ 9223372036854775807) (ok : ∀ x ∈ l, okKey x) :
    Calls Tryd.prog 4 #[.slice A0 l.length c0] w fun e w' => e = .returned (.bool true) ∧ Below w.heap.size w w' := by
  obtain ⟨k, h⟩ := P l hl ok
  refine (laws_FnExactKeysOk.calls k A0 c0 l true w hT hr hc h).mono ?_
  rintro e w' ⟨rfl, hd⟩
  exact ⟨rfl, hd⟩
end Go.Proofs.YtdicaljeegaieaaDoor.L

namespace Go.Proofs.YtdicaljeegaieaaDoor.Pure
open Go.RowKit Go.Proofs.YtdicaljeegaieaaDoor.L Go.Proofs.YtdicaljeegaieaaDoor.O Go.Proofs.YtdicaljeegaieaaDoorW.PrintWords Go.Proofs.YtdicaljeegaieaaDoorW.PrintLast Go.Proofs.YtdicaljeegaieaaDoorW.PrintMore
set_option linter.unusedVariables false
set_option linter.unusedSimpArgs false

def rightB (x : S72) : Bool := nameB x.f0.data.toList && (nameB x.f2.data.toList && (in13 x.f1 && (pathB x.f3.data.toList && (len14 x.f4.length && x.f4.all fB))))
theorem fields_all : ∀ L : List ByteArray, (∀ x ∈ L, x.size ≤ 1048576) → ∃ K, ∀ k, K ≤ k → ∀ x ∈ L, (impl_fieldParts.f k x).isSome = true ∧ badK k x = !fB x
  | [], _ => ⟨0, fun _ _ _ h => by cases h⟩
  | x :: L, h => by
    obtain ⟨v, ⟨K1, h1⟩, hv⟩ := impl_field x (by rw [← sz]; exact h x (by simp))
    obtain ⟨K2, h2⟩ := fields_all L fun y hy => h y (by simp [hy])
    refine ⟨max K1 K2, fun k hk y hy => ?_⟩
    rcases List.mem_cons.1 hy with e | hy
    · subst e
      have h3 : impl_fieldParts.f k y = some v := h1 k (by omega)
      refine ⟨by rw [h3]; rfl, ?_⟩
      unfold badK
      rw [h3]
      show (!v.2.2) = _
      rw [hv]
      rfl
    · exact h2 k (by omega) y hy
theorem contains_ev (L : List ByteArray) (h : ∀ x ∈ L, x.size ≤ 1048576) : Ev (fun k => slices_ContainsFunc_string_string.f k L) (!(L.all fB)) := by
  obtain ⟨K, hK⟩ := fields_all L h
  refine ⟨K, fun k hk => ?_⟩
  show slices_ContainsFunc_string_string.f k L = _
  unfold slices_ContainsFunc_string_string.f
  rw [if_pos (by rw [List.all_eq_true]; intro x hx; exact (hK k hk x hx).1)]
  congr 1
  rw [List.not_all_eq_any_not]
  exact any_same _ fun x hx => (hK k hk x hx).2
theorem right_ev (x : S72) (hs : small2 x) : Ev (fun k => impl_Key_isRight.f k x.f0 x.f1 x.f2 x.f3 x.f4 x.f5) (rightB x) := by
  unfold impl_Key_isRight.f rightB
  refine Ev.bind (impl_name x.f0 (by rw [← sz]; have := hs.1; omega)) ?_
  cases nameB x.f0.data.toList with
  | false => exact Ev.now _
  | true =>
    simp only [if_true, Bool.true_and]
    refine Ev.bind (impl_name x.f2 (by rw [← sz]; have := hs.2.1; omega)) ?_
    cases nameB x.f2.data.toList with
    | false => exact Ev.now _
    | true =>
      simp only [if_true, Bool.true_and]
      rw [impl_in13]
      simp only [Option.bind_some]
      cases in13 x.f1 with
      | false => exact Ev.now _
      | true =>
        simp only [if_true, Bool.true_and]
        refine Ev.bind (impl_path x.f3 (by rw [← sz]; exact hs.2.2.1)) ?_
        cases pathB x.f3.data.toList with
        | false => exact Ev.now _
        | true =>
          simp only [if_true, Bool.true_and]
          rw [impl_in14]
          simp only [Option.bind_some]
          cases len14 x.f4.length with
          | false => exact Ev.now _
          | true =>
            simp only [if_true, Bool.true_and]
            refine Ev.bind (contains_ev x.f4 hs.2.2.2.1.2) ?_
            rw [Bool.not_not]
            exact Ev.now _
theorem ref_ev (l : List S72) (i : Nat) (hi : i < l.length) : impl_referred.f l (i : Int) = some (Lib.idxBy (fun _ y => refP l[i] y) (l.take i) z72) := by
  unfold impl_referred.f
  rw [if_pos ⟨by omega, by omega⟩, rd2 l i hi, Int.toNat_natCast]
theorem ref_any (x : S72) (P : List S72) (z : S72) : (Lib.idxBy (fun _ y => refP x y) P z < 0) ↔ P.any (refP x) = false := by
  have := Lib.idxBy_nonneg_iff (fun _ y => refP x y) P z
  constructor
  · intro h
    rw [decide_eq_false (by omega)] at this
    exact this.symm
  · intro h
    have h2 : decide (0 ≤ Lib.idxBy (fun _ y => refP x y) P z) = false := this.trans h
    have := of_decide_eq_false h2
    omega

/-! #### names, all unlike -/
def hasB (P : List ByteArray) (n : ByteArray) : Bool := P.any fun y => n.toList == y.toList
def unlB : List ByteArray → List ByteArray → Bool
  | _, [] => true
  | P, n :: t => nameB n.data.toList && (!(hasB P n) && unlB (P ++ [n]) t)
theorem index_l0 (P : List ByteArray) (n : ByteArray) (hP : P.length ≤ 1048576) : ∀ (m i : Nat), i + m = P.length →
    ∃ v, Ev (fun k => slices_Index_string_string.l0 k P n (P.length : Int) (i : Int)) v ∧ decide (v ≥ 0) = hasB (P.drop i) n := by
  intro m
  induction m with
  | zero =>
    intro i hi
    refine ⟨-1, Ev.step (f := fun _ => some (-1)) (fun k => ?_) (Ev.now _), ?_⟩
    · unfold slices_Index_string_string.l0
      rw [if_neg (by omega)]
    · rw [List.drop_of_length_le (by omega)]; rfl
  | succ m ih =>
    intro i hi
    have hlt : i < P.length := by omega
    by_cases c : n.toList = P[i].toList
    · refine ⟨(i : Int), Ev.step (f := fun _ => some (i : Int)) (fun k => ?_) (Ev.now _), ?_⟩
      · conv => lhs; unfold slices_Index_string_string.l0
        rw [if_pos (by omega), if_pos (by omega), if_pos (by omega), rdB P i hlt, if_pos c]
      · rw [List.drop_eq_getElem_cons hlt]
        unfold hasB
        rw [List.any_cons, c, beq_self_eq_true, Bool.true_or]
        exact decide_eq_true (by omega)
    · obtain ⟨v, hv, hr⟩ := ih (i + 1) (by omega)
      refine ⟨v, Ev.step (f := fun k => slices_Index_string_string.l0 k P n (P.length : Int) ((i + 1 : Nat) : Int)) (fun k => ?_) hv, ?_⟩
      · conv => lhs; unfold slices_Index_string_string.l0
        rw [if_pos (by omega), if_pos (by omega), if_pos (by omega), rdB P i hlt, if_neg c, w64s hlt (by omega)]
      · rw [List.drop_eq_getElem_cons hlt, hr]
        unfold hasB
        rw [List.any_cons]
        have e : (n.toList == P[i].toList) = false := by simpa using c
        rw [e, Bool.false_or]
theorem has_ev (P : List ByteArray) (n : ByteArray) (hP : P.length ≤ 1048576) : Ev (fun k => slices_Contains_string_string.f k P n) (hasB P n) := by
  obtain ⟨v, hv, hr⟩ := index_l0 P n hP P.length 0 (by omega)
  unfold slices_Contains_string_string.f slices_Index_string_string.f
  refine Ev.bind hv ?_
  rw [List.drop_zero] at hr
  rw [hr]
  exact Ev.now _
theorem unl_l0 (N : List ByteArray) (hN : N.length ≤ 1048576) (hs : ∀ x ∈ N, x.size ≤ 1048576) : ∀ (m i : Nat), i + m = N.length →
    Ev (fun k => impl_areUnlike.l0 k N N (N.length : Int) (i : Int)) (unlB (N.take i) (N.drop i)) := by
  intro m
  induction m with
  | zero =>
    intro i hi
    rw [List.drop_of_length_le (by omega)]
    refine Ev.step (f := fun _ => some true) (fun k => ?_) (Ev.now _)
    unfold impl_areUnlike.l0
    rw [if_neg (by omega)]
  | succ m ih =>
    intro i hi
    have hlt : i < N.length := by omega
    have hih := ih (i + 1) (by omega)
    rw [List.take_succ_eq_append_getElem hlt] at hih
    rw [List.drop_eq_getElem_cons hlt]
    have hf : ∀ k, impl_areUnlike.l0 (k + 1) N N (N.length : Int) (i : Int) = (impl_NameOk.f k N[i]).bind fun t213 => (if t213 = true then ((slices_Contains_string_string.f k (N.take i) N[i]).bind fun t215 => (if t215 = true then (some false) else (impl_areUnlike.l0 k N N (N.length : Int) ((i + 1 : Nat) : Int)))) else (some false)) := by
      intro k
      conv => lhs; unfold impl_areUnlike.l0
      rw [if_pos (by omega), if_pos (by omega), if_pos (by omega), rdB N i hlt, w64s hlt (by omega), Int.toNat_natCast]
      simp only [if_pos (show (i : Int) ≤ (N.length : Int) by omega)]
    refine Ev.step hf (Ev.bind (impl_name N[i] (by rw [← sz]; have := hs _ (List.getElem_mem hlt); omega)) ?_)
    unfold unlB
    cases nameB N[i].data.toList with
    | false => exact Ev.now _
    | true =>
      simp only [if_true, Bool.true_and]
      refine Ev.bind (has_ev (N.take i) N[i] (by rw [List.length_take]; omega)) ?_
      cases hasB (N.take i) N[i] with
      | true => exact Ev.now _
      | false =>
        simp only [Bool.false_eq_true, if_false, Bool.not_false, Bool.true_and]
        exact hih
theorem unl_ev (N : List ByteArray) (hN : N.length ≤ 1048576) (hs : ∀ x ∈ N, x.size ≤ 1048576) : Ev (fun k => impl_areUnlike.f k N) (unlB [] N) := by
  have := unl_l0 N hN hs N.length 0 (by omega)
  unfold impl_areUnlike.f
  simpa using this

/-! #### the program's reader of keys -/
def implK : List S72 → List S72 → Bool
  | _, [] => true
  | P, x :: t => rightB x && ((if x.f1 = 3 then P.any (refP x) else x.f5.toList == []) && implK (P ++ [x]) t)
theorem impl_l0 (l : List S72) (hl : l.length ≤ 1048576) (hs : ∀ x ∈ l, small2 x) : ∀ (n i : Nat), i + n = l.length →
    Ev (fun k => impl_KeysOk.l0 k l ((l.take i).map (·.f0)) l (l.length : Int) (i : Int)) (implK (l.take i) (l.drop i) && (decide (l.length ≤ 10) && unlB [] (l.map (·.f0)))) := by
  intro n
  induction n with
  | zero =>
    intro i hi
    rw [List.drop_of_length_le (by omega), List.take_of_length_le (by omega)]
    show Ev _ (true && _)
    rw [Bool.true_and]
    have hu := unl_ev (l.map (·.f0)) (by simpa using hl) (fun x hx => by
      obtain ⟨y, hy, rfl⟩ := List.mem_map.1 hx
      exact (hs y hy).1)
    by_cases c : l.length ≤ 10
    · rw [decide_eq_true c, Bool.true_and]
      refine Ev.step (f := fun k => (impl_areUnlike.f k (l.map (·.f0))).bind fun t219 => (some t219)) (fun k => ?_) (Ev.bind hu (Ev.now _))
      conv => lhs; unfold impl_KeysOk.l0
      rw [if_neg (by omega), if_pos (by omega)]
    · rw [decide_eq_false c, Bool.false_and]
      refine Ev.step (f := fun _ => some false) (fun k => ?_) (Ev.now _)
      conv => lhs; unfold impl_KeysOk.l0
      rw [if_neg (by omega), if_neg (by omega)]
  | succ n ih =>
    intro i hi
    have hlt : i < l.length := by omega
    have hih := ih (i + 1) (by omega)
    have hrf := ref_ev l i hlt
    obtain ⟨x, hx⟩ : ∃ x, l[i] = x := ⟨_, rfl⟩
    have hsx : small2 x := by rw [← hx]; exact hs _ (List.getElem_mem hlt)
    rw [List.take_succ_eq_append_getElem hlt, List.map_append, hx] at hih
    rw [List.drop_eq_getElem_cons hlt, hx]
    rw [hx] at hrf
    have hnl : ((l.take i).map (·.f0)).length < 8796093022208 := by rw [List.length_map, List.length_take]; omega
    have hf : ∀ k, impl_KeysOk.l0 (k + 1) l ((l.take i).map (·.f0)) l (l.length : Int) (i : Int) = (impl_Key_isRight.f k x.f0 x.f1 x.f2 x.f3 x.f4 x.f5).bind fun t222 => (if t222 = true then (if x.f1 = 3 then ((impl_referred.f l (i : Int)).bind fun t223 => (if t223 < 0 then (some false) else (impl_KeysOk.l0 k l ((l.take i).map (·.f0) ++ [x.f0]) l (l.length : Int) ((i + 1 : Nat) : Int)))) else (if x.f5.toList = ([] : List UInt8) then (impl_KeysOk.l0 k l ((l.take i).map (·.f0) ++ [x.f0]) l (l.length : Int) ((i + 1 : Nat) : Int)) else (some false))) else (some false)) := by
      intro k
      conv => lhs; unfold impl_KeysOk.l0
      rw [if_pos (by omega), if_pos (by omega), if_pos (by omega), rd2 l i hlt, hx, w64s hlt (by omega)]
      simp only [if_pos hnl]
    refine Ev.step hf (Ev.bind (right_ev x hsx) ?_)
    unfold implK
    cases rightB x with
    | false => exact Ev.now _
    | true =>
      simp only [if_true, Bool.true_and]
      by_cases h3 : x.f1 = 3
      · simp only [if_pos h3]
        rw [hrf]
        simp only [Option.bind_some]
        cases ha : (l.take i).any (refP x) with
        | false =>
          simp only [if_pos ((ref_any x (l.take i) z72).2 ha)]
          exact Ev.now _
        | true =>
          have hn : ¬ Lib.idxBy (fun _ y => refP x y) (l.take i) z72 < 0 := fun h => by
            have := (ref_any x (l.take i) z72).1 h
            rw [ha] at this
            cases this
          simp only [if_neg hn, Bool.true_and]
          exact hih
      · simp only [if_neg h3]
        by_cases h5 : x.f5.toList = []
        · simp only [if_pos h5]
          rw [h5]
          simpa using hih
        · have e5 : (x.f5.toList == []) = false := by simpa using h5
          simp only [if_neg h5]
          rw [e5]
          exact Ev.now _
theorem impl_keys (l : List S72) (hl : l.length ≤ 1048576) (hs : ∀ x ∈ l, small2 x) : Ev (fun k => impl_KeysOk.f k l) (implK [] l && (decide (l.length ≤ 10) && unlB [] (l.map (·.f0)))) := by
  have := impl_l0 l hl hs l.length 0 (by omega)
  unfold impl_KeysOk.f
  simpa using this
theorem name_ne {l : List UInt8} (h : nameB l = true) : l ≠ [] := by
  intro e; subst e; cases h
theorem keys_alike : ∀ (t P : List S72), (∀ y ∈ P, nameB y.f0.data.toList = true) → (implK P t && unlB (P.map (·.f0)) (t.map (·.f0))) = specK P t
  | [], P, _ => rfl
  | x :: t, P, hP => by
    have hnm : P.any (nm x) = hasB (P.map (·.f0)) x.f0 := by
      unfold hasB
      rw [List.any_map]
      refine any_same P fun y _ => ?_
      unfold nm
      show (y.f0.toList == x.f0.toList) = (x.f0.toList == y.f0.toList)
      exact Bool.beq_comm
    have hr : rightB x = (headB x && x.f4.all fB) := by
      unfold rightB headB
      cases nameB x.f0.data.toList <;> cases in13 x.f1 <;> cases nameB x.f2.data.toList <;> cases pathB x.f3.data.toList <;> cases len14 x.f4.length <;> cases x.f4.all fB <;> rfl
    rw [implK, specK, List.map_cons, unlB, hnm, hr]
    cases hh : headB x with
    | false => simp
    | true =>
      have hn : nameB x.f0.data.toList = true := by
        unfold headB at hh
        simp only [Bool.and_eq_true] at hh
        exact hh.1
      have ih := keys_alike t (P ++ [x]) (fun y hy => by
        rcases List.mem_append.1 hy with h | h
        · exact hP y h
        · rw [List.mem_singleton.1 h]; exact hn)
      rw [List.map_append] at ih
      have hlast : (if x.f1 = 3 then P.any (refP x) else x.f5.toList == []) = lastB (P.any (refP x)) x := by
        unfold lastB
        by_cases h3 : x.f1 = 3
        · rw [if_pos h3, h3]
          cases P.any (refP x) <;> rfl
        · have e3 : (x.f1 == 3) = false := by simpa using h3
          rw [if_neg h3, e3, Bool.false_or]
          cases h5 : (x.f5.toList == []) with
          | false => cases P.any (refP x) <;> rfl
          | true =>
            have hno : P.any (refP x) = false := by
              rw [List.any_eq_false]
              intro y hy hc
              have e5 : x.f5.toList = [] := by simpa using h5
              unfold refP at hc
              simp only [Bool.and_eq_true, beq_iff_eq] at hc
              have := name_ne (hP y hy)
              rw [← Lib.toList_data, hc.1, e5] at this
              exact this rfl
            rw [hno]
            rfl
      rw [hlast, hn, ← ih, show ([x].map (fun y : S72 => y.f0)) = [x.f0] from rfl]
      cases x.f4.all fB <;> cases lastB (P.any (refP x)) x <;> cases hasB (P.map (·.f0)) x.f0 <;> simp
theorem small_conv (x : S71) (h : smallK x) : small2 (conv x) := h
theorem FnExactKeysOk : laws_FnExactKeysOk.Pure := by
  intro l hl hs
  obtain ⟨v, hv, hr⟩ := szKS l hl hs
  have hf : ∀ k, laws_FnExactKeysOk.f k l = (laws_szKeyS.f k l 1048576).bind fun t231 => (if t231 < 0 then (some true) else ((laws_toKeyS.f k l).bind fun t232 => ((spec_KeysOk.f k t232).bind fun t235 => ((laws_toKeyS.f k l).bind fun t236 => ((impl_KeysOk.f k t236).bind fun t239 => (if (t239 != t235) = true then (some false) else ((laws_toKeyS.f k l).bind fun t240 => ((laws_eqKeyS.f k t236 t240).bind fun t243 => (if t243 = true then (some true) else (some false)))))))))) := fun k => rfl
  rcases hr with h | ⟨h0, h1, h2⟩
  · have : Ev (fun k => laws_FnExactKeysOk.f k l) true := by
      refine Ev.congr hf (Ev.bind hv ?_)
      simp only [if_pos h]
      exact Ev.now _
    exact this.rounds
  · have hcl : (l.map conv).length ≤ 1048576 := by rw [List.length_map]; exact h1
    have hcs : ∀ x ∈ l.map conv, small2 x := fun x hx => by
      obtain ⟨y, hy, rfl⟩ := List.mem_map.1 hx
      exact small_conv y (h2 y hy)
    have hto := toKS l h1 h2
    have hsp := spec_keys (l.map conv) hcl hcs
    have him := impl_keys (l.map conv) hcl hcs
    have heq := eqKS (l.map conv) hcl (fun x hx => (hcs x hx).2.2.2.1.1)
    have hal := keys_alike (l.map conv) [] (fun y hy => by cases hy)
    have e : (implK [] (l.map conv) && (decide ((l.map conv).length ≤ 10) && unlB [] ((l.map conv).map (·.f0)))) = (decide ((l.map conv).length ≤ 10) && specK [] (l.map conv)) := by
      rw [← hal]
      show _ = (_ && (_ && unlB [] _))
      cases decide ((l.map conv).length ≤ 10) <;> simp
    rw [e] at him
    have : Ev (fun k => laws_FnExactKeysOk.f k l) true := by
      refine Ev.congr hf (Ev.bind hv ?_)
      simp only [if_neg (show ¬ v < 0 by omega)]
      refine Ev.bind hto (Ev.bind hsp (Ev.bind hto (Ev.bind him ?_)))
      simp only [bne_self_eq_false, Bool.false_eq_true, if_false]
      refine Ev.bind hto (Ev.bind heq ?_)
      exact Ev.now _
    exact this.rounds
end Go.Proofs.YtdicaljeegaieaaDoor.Pure
