/- Words and contracts for the row RowFnExactAccepts: what the Go functions answer that it calls; printed by programs of the kit and of this session, and merged. -/
import Derived.Test.YtejkkdjfiebmfaaQe2
namespace Go.Proofs.Ytejkkdjfiebmfaa.L
open Go.RowKit Go.Proofs.YtejkkdjfiebmfaaW.PrintWords Go.Proofs.YtejkkdjfiebmfaaW.PrintLast Go.Proofs.YtejkkdjfiebmfaaW.PrintMore
attribute [local go_sem] max2_int min2_int max_two min_two max_three min_three max_four min_four
set_option linter.unusedVariables false
set_option linter.unusedSimpArgs false

/-! ### spec_l8Tree: function 60 -/
mutual
def spec_l8Tree.l0 : Nat → List (S49) → Int → Int → Int → Option (Int)
 | 0, _, _, _, _ => none
 | k + 1, x0, x1, x5, x6 => if x6 ≥ 0 then (if x5 < 0 then (spec_l8Tree.j1 k x0 x1 x5 x6 true) else (if 0 ≤ x1 then (if x1 < (x0.length : Int) then (if 0 ≤ x6 then (if x6 < (((rd_T49 x0 x1).f2).length : Int) then (spec_l8Tree.j1 k x0 x1 x5 x6 ((rd ((rd_T49 x0 x1).f2) x6) != x5)) else (none)) else (none)) else (none)) else (none))) else (some (wrap64 (x5 + 1)))
def spec_l8Tree.j1 : Nat → List (S49) → Int → Int → Int → Bool → Option (Int)
 | 0, _, _, _, _, _ => none
 | k + 1, x0, x1, x5, x6, x34 => if x34 = true then (some (-1)) else ((spec_l8Tree.f k x0 x5).bind fun t112 => (if t112 < 0 then (some (-1)) else (spec_l8Tree.l0 k x0 x1 (wrap64 (t112 - 1)) (wrap64 (x6 - 1)))))
def spec_l8Tree.f : Nat → List (S49) → Int → Option (Int)
 | 0, _, _ => none
 | k + 1, l0, a1 => if 0 ≤ a1 then (if a1 < (l0.length : Int) then (spec_l8Tree.l0 k l0 a1 (wrap64 (a1 - 1)) (wrap64 ((((rd_T49 l0 a1).f2).length : Int) - 1))) else (none)) else (none)
end
set_option maxHeartbeats 8000000 in
set_option maxRecDepth 100000 in
theorem spec_l8Tree.calls (k : Nat) : ∀ (A0 : Option Addr) (c0 : Nat) (l0 : List (S49)) (a1 : Int) (r : Int) (w : World) (hr0 : Kd.C k49 w A0 l0.length l0) (hc0 : l0.length ≤ c0) (h : spec_l8Tree.f k l0 a1 = some r),
  Calls Try.prog 60 #[.slice A0 l0.length c0, .int .i64 a1] w fun e w' => e = .returned (.int .i64 r) ∧ Drawn0 w w' := by
 induction k using Nat.strongRecOn with
 | _ k ih =>
 intro A0 c0 l0 a1 r w hr0 hc0 h
 cases k with
 | zero => exact absurd h (by simp [spec_l8Tree.f])
 | succ k =>
 simp only [spec_l8Tree.f] at h
 have HR0 := Aside0.mk hr0
 have HC0 := Aside0.mk hc0
 clear hr0 hc0
 have H : (if 0 ≤ a1 then (if a1 < (l0.length : Int) then (spec_l8Tree.l0 k l0 a1 (wrap64 (a1 - 1)) (wrap64 ((((rd_T49 l0 a1).f2).length : Int) - 1))) else (none)) else (none)) = some r := h
 clear h
 by_cases c3 : 0 ≤ a1
 rotate_left
 ·rw [if_neg c3] at H
  exact absurd H (by simp)
 rw [if_pos c3] at H
 have c3b0 := decide_eq_true c3
 clear c3
 by_cases c4 : a1 < (l0.length : Int)
 rotate_left
 ·rw [if_neg c4] at H
  exact absurd H (by simp)
 rw [if_pos c4] at H
 have c4b0 := decide_eq_true c4
 clear c4
 have H' := Aside0.mk H
 clear H
 have p109 : 0 ≤ (a1 : Int) := of_decide_eq_true dq20
 have q109 : a1 < (l0.length : Int) := of_decide_eq_true dq20
 obtain ⟨ad109, A109_2, c109_2, e109, hx109_0, hx109_1, hx109_2, hx109_3, hl109_2, hi109_2⟩ := at_T49 HR0.out a1 p109 q109
 cases e109
 have HR109_2 := Aside0.mk hi109_2
 have HC109_2 := Aside0.mk hl109_2
 clear hi109_2 hl109_2
 replace p109 := eq_true p109
 replace q109 := eq_true q109
 go_enter Try.func60, Try.ntmps60
 go_wp2
 go_loopg [5, 6] k (fun kq v5 v6 w' => ∃ (x5_1 : Int) (x6_1 : Int), v5 = .int .i64 x5_1 ∧ v6 = .int .i64 x6_1 ∧ Aside0 (spec_l8Tree.l0 kq l0 a1 x5_1 x6_1 = some r) ∧ Aside0 (kq ≤ k) ∧ Drawn0 w w')
 case atStart => exact ⟨(wrap64 (a1 - 1)), (wrap64 ((((rd_T49 l0 a1).f2).length : Int) - 1)), dq13, dq13, H', ⟨Nat.le_refl _⟩, dq12⟩
 clear H'
 try clear c1
 try clear p1
 try clear q1
 try clear hx1
 try clear p2
 try clear c3
 try clear c3b0
 try clear c4
 try clear c4b0
 try clear hx109_0
 try clear hx109_1
 try clear hx109_2
 try clear hx109_3
 try clear p109
 try clear q109
 obtain ⟨x5_1, x6_1, rfl, rfl, HA, HK1, ⟨m1, rfl⟩⟩ := hrel
 cases gk with
 | zero => exact absurd HA.out (by simp [spec_l8Tree.l0])
 | succ k1 =>
  have H := HA.out
  clear HA
  simp only [spec_l8Tree.l0] at H
  by_cases c5 : x6_1 ≥ 0
  rotate_left
  ·rw [if_neg c5] at H
   have c5b0 : decide (0 ≤ x6_1) = false := decide_eq_false c5
   clear c5
   obtain rfl := Option.some.inj H
   go_wp2
   go_ret
   exact ⟨dq13, dq12⟩
  rw [if_pos c5] at H
  have c5b0 : decide (0 ≤ x6_1) = true := decide_eq_true c5
  clear c5
  have HC6 := Aside0.mk H
  clear H
  go_upto_region 5 with (fail)
  go_cut [34] (fun v34 wc => ∃ (kq : Nat) (x34_5 : Bool), v34 = .bool x34_5 ∧ Aside0 (spec_l8Tree.j1 kq l0 a1 x5_1 x6_1 x34_5 = some r) ∧ Aside0 (kq ≤ k1) ∧ Drawn0 w wc)
  case first =>
   have H := HC6.out
   clear HC6
   by_cases c7 : x5_1 < 0
   ·rw [if_pos c7] at H
    have c7b0 := decide_eq_true c7
    clear c7
    (first | rw [c7b0] | (simp only [i64_w, i32_w]; rw [c7b0]) | skip)
    have H' := Aside0.mk H
    clear H
    go_wp2
    go_meet
    case rel => exact ⟨_, (true), dq13, H', ⟨dq40⟩, dq12⟩
   rw [if_neg c7] at H
   have c7b0 := decide_eq_false c7
   clear c7
   (first | rw [c7b0] | (simp only [i64_w, i32_w]; rw [c7b0]) | skip)
   by_cases c8 : 0 ≤ a1
   rotate_left
   ·rw [if_neg c8] at H
    exact absurd H (by simp)
   rw [if_pos c8] at H
   have c8b0 := decide_eq_true c8
   clear c8
   by_cases c9 : a1 < (l0.length : Int)
   rotate_left
   ·rw [if_neg c9] at H
    exact absurd H (by simp)
   rw [if_pos c9] at H
   have c9b0 := decide_eq_true c9
   clear c9
   by_cases c10 : 0 ≤ x6_1
   rotate_left
   ·rw [if_neg c10] at H
    exact absurd H (by simp)
   rw [if_pos c10] at H
   have c10b0 := decide_eq_true c10
   clear c10
   by_cases c11 : x6_1 < (((rd_T49 l0 a1).f2).length : Int)
   rotate_left
   ·rw [if_neg c11] at H
    exact absurd H (by simp)
   rw [if_pos c11] at H
   have c11b0 := decide_eq_true c11
   clear c11
   have H' := Aside0.mk H
   clear H
   have p110 : 0 ≤ (a1 : Int) := of_decide_eq_true dq20
   have q110 : a1 < (l0.length : Int) := of_decide_eq_true dq20
   obtain ⟨ad110, A110_2, c110_2, e110, hx110_0, hx110_1, hx110_2, hx110_3, hl110_2, hi110_2⟩ := at_T49 HR0.out a1 p110 q110
   obtain rfl : ad109 = ad110 := (by injection e110)
   have HR110_2 := Aside0.mk hi110_2
   have HC110_2 := Aside0.mk hl110_2
   clear hi110_2 hl110_2
   replace p110 := eq_true p110
   replace q110 := eq_true q110
   have p111 : 0 ≤ (x6_1 : Int) := of_decide_eq_true dq20
   have q111 : x6_1 < (((rd_T49 l0 a1).f2).length : Int) := of_decide_eq_true dq20
   obtain ⟨ad111, e111, hx111_0⟩ := Kd.at_int HR110_2.out x6_1 p111 q111
   cases e111
   replace p111 := eq_true p111
   replace q111 := eq_true q111
   go_wp2
   go_meet
   case rel => exact ⟨_, (((rd ((rd_T49 l0 a1).f2) x6_1) != x5_1)), dq13, H', ⟨dq40⟩, dq12⟩
  clear HC6
  try clear c1
  try clear p1
  try clear q1
  try clear hx1
  try clear p2
  try clear c3
  try clear c3b0
  try clear c4
  try clear c4b0
  try clear c5
  try clear c5b0
  try clear c6
  try clear p6
  try clear c7
  try clear c7b0
  try clear c8
  try clear c8b0
  try clear c9
  try clear c9b0
  try clear c10
  try clear c10b0
  try clear p10
  try clear q10
  try clear hx10
  try clear c11
  try clear c11b0
  try clear p11
  try clear q11
  try clear hx11
  try clear hx109_0
  try clear hx109_1
  try clear hx109_2
  try clear hx109_3
  try clear hx110_0
  try clear hx110_1
  try clear hx110_2
  try clear hx110_3
  try clear hx111_0
  try clear p1
  try clear p109
  try clear p110
  try clear p111
  try clear p2
  try clear q1
  try clear q109
  try clear q110
  try clear q111
  obtain ⟨kq, x34_5, rfl, HA, HJ5, ⟨mc5, rfl⟩⟩ := hcut
  cases kq with
  | zero => exact absurd HA.out (by simp [spec_l8Tree.j1])
  | succ kj5 =>
   have H := HA.out
   clear HA
   simp only [spec_l8Tree.j1] at H
   by_cases c12 : x34_5 = true
   ·subst c12
    have H1 : (some (-1)) = some r := by rw [if_pos rfl] at H; exact H
    clear H
    have H := H1
    clear H1
    obtain rfl := Option.some.inj H
    go_wp2
    go_ret
    exact ⟨dq13, dq12⟩
   replace c12 := Bool.eq_false_iff.mpr c12
   subst c12
   have H1 : ((spec_l8Tree.f kj5 l0 x5_1).bind fun t112 => (if t112 < 0 then (some (-1)) else (spec_l8Tree.l0 kj5 l0 a1 (wrap64 (t112 - 1)) (wrap64 (x6_1 - 1))))) = some r := by rw [if_neg (show ¬ (false = true) by decide)] at H; exact H
   clear H
   have H := H1
   clear H1
   replace H := Option.bind_eq_some_iff.mp H
   obtain ⟨t112, A130, H⟩ := H
   replace H : (if t112 < 0 then (some (-1)) else (spec_l8Tree.l0 kj5 l0 a1 (wrap64 (t112 - 1)) (wrap64 (x6_1 - 1)))) = some r := H
   have A13 := Aside0.mk A130
   clear A130
   by_cases c14 : t112 < 0
   ·rw [if_pos c14] at H
    have c14b0 := decide_eq_true c14
    clear c14
    obtain rfl := Option.some.inj H
    go_wp2_with (first | ((with_reducible refine gate_callee (f := 60) rfl ?_); refine goesL_ (some 37) rfl rfl Try.func60 dq19 rfl #[.slice (some ad109) l0.length c0, .int .i64 x5_1] rfl dq18 ?_; (with_reducible refine (ih kj5 (by have := HK1.out; have := HJ5.out; omega) _ _ l0 x5_1 t112 _ ?side1 ?side2 A13.out).mono ?_); (case side1 => exact dq3); (case side2 => exact HC0.out); rintro e w' ⟨rfl, ⟨nd, rfl⟩⟩; refine ⟨_, rfl, ?_⟩))
    go_ret
    exact ⟨dq13, dq12⟩
   rw [if_neg c14] at H
   have c14b0 := decide_eq_false c14
   clear c14
   have H' := Aside0.mk H
   clear H
   go_wp2_with (first | ((with_reducible refine gate_callee (f := 60) rfl ?_); refine goesL_ (some 37) rfl rfl Try.func60 dq19 rfl #[.slice (some ad109) l0.length c0, .int .i64 x5_1] rfl dq18 ?_; (with_reducible refine (ih kj5 (by have := HK1.out; have := HJ5.out; omega) _ _ l0 x5_1 t112 _ ?side1 ?side2 A13.out).mono ?_); (case side1 => exact dq3); (case side2 => exact HC0.out); rintro e w' ⟨rfl, ⟨nd, rfl⟩⟩; refine ⟨_, rfl, ?_⟩))
   go_roundg kj5
   case measure => have := HK1.out; have := HJ5.out; omega
   case rel => exact ⟨(wrap64 (t112 - 1)), (wrap64 (x6_1 - 1)), dq13, dq13, H', ⟨by have := HK1.out; have := HJ5.out; omega⟩, dq12⟩

/-! ### spec_l8Deep: function 61 -/
mutual
def spec_l8Deep.l0 : Nat → List (S49) → Int → Int → Int → Option (Int)
 | 0, _, _, _, _ => none
 | k + 1, x0, x1, x5, x6 => if 0 ≤ x1 then (if x1 < (x0.length : Int) then (if x6 < (((rd_T49 x0 x1).f2).length : Int) then (if 0 ≤ x6 then ((spec_l8Deep.f k x0 (rd ((rd_T49 x0 x1).f2) x6)).bind fun t116 => (spec_l8Deep.l0 k x0 x1 (mx x5 t116) (wrap64 (x6 + 1)))) else (none)) else (some (wrap64 (x5 + 1)))) else (none)) else (none)
def spec_l8Deep.f : Nat → List (S49) → Int → Option (Int)
 | 0, _, _ => none
 | k + 1, l0, a1 => spec_l8Deep.l0 k l0 a1 0 0
end
set_option maxHeartbeats 8000000 in
set_option maxRecDepth 100000 in
theorem spec_l8Deep.calls (k : Nat) : ∀ (A0 : Option Addr) (c0 : Nat) (l0 : List (S49)) (a1 : Int) (r : Int) (w : World) (hr0 : Kd.C k49 w A0 l0.length l0) (hc0 : l0.length ≤ c0) (h : spec_l8Deep.f k l0 a1 = some r),
  Calls Try.prog 61 #[.slice A0 l0.length c0, .int .i64 a1] w fun e w' => e = .returned (.int .i64 r) ∧ Below w.heap.size w w' := by
 induction k using Nat.strongRecOn with
 | _ k ih =>
 intro A0 c0 l0 a1 r w hr0 hc0 h
 cases k with
 | zero => exact absurd h (by simp [spec_l8Deep.f])
 | succ k =>
 simp only [spec_l8Deep.f] at h
 have HR0 := Aside0.mk hr0
 have HC0 := Aside0.mk hc0
 clear hr0 hc0
 have HB := Aside0.mk (Below.refl w.heap.size w)
 have H : (spec_l8Deep.l0 k l0 a1 0 0) = some r := h
 clear h
 have H' := Aside0.mk H
 clear H
 go_enter Try.func61, Try.ntmps61
 go_wp2
 go_loopg [5, 6] k (fun kq v5 v6 w' => ∃ (x5_1 : Int) (x6_1 : Int), v5 = .int .i64 x5_1 ∧ v6 = .int .i64 x6_1 ∧ Aside0 (spec_l8Deep.l0 kq l0 a1 x5_1 x6_1 = some r) ∧ Aside0 (kq ≤ k) ∧ Aside0 (Below w.heap.size w w'))
 case atStart => exact ⟨(0), (0), dq13, dq13, H', ⟨Nat.le_refl _⟩, ⟨dq15⟩⟩
 clear H'
 try clear p2
 obtain ⟨x5_1, x6_1, rfl, rfl, HA, HK1, HB⟩ := hrel
 cases gk with
 | zero => exact absurd HA.out (by simp [spec_l8Deep.l0])
 | succ k1 =>
  have H := HA.out
  clear HA
  simp only [spec_l8Deep.l0] at H
  by_cases c3 : 0 ≤ a1
  rotate_left
  ·rw [if_neg c3] at H
   exact absurd H (by simp)
  rw [if_pos c3] at H
  have c3b0 := decide_eq_true c3
  clear c3
  by_cases c4 : a1 < (l0.length : Int)
  rotate_left
  ·rw [if_neg c4] at H
   exact absurd H (by simp)
  rw [if_pos c4] at H
  have c4b0 := decide_eq_true c4
  clear c4
  by_cases c5 : x6_1 < (((rd_T49 l0 a1).f2).length : Int)
  rotate_left
  ·rw [if_neg c5] at H
   have c5b0 := decide_eq_false c5
   clear c5
   obtain rfl := Option.some.inj H
   have p113 : 0 ≤ (a1 : Int) := of_decide_eq_true dq20
   have q113 : a1 < (l0.length : Int) := of_decide_eq_true dq20
   obtain ⟨ad113, A113_2, c113_2, e113, hx113_0, hx113_1, hx113_2, hx113_3, hl113_2, hi113_2⟩ := at_T49 HR0.out a1 p113 q113
   cases e113
   replace hx113_0 := (HB.out.cell (World.block_lt_of_cell? w _ hx113_0)).trans hx113_0
   replace hx113_1 := (HB.out.cell (World.block_lt_of_cell? w _ hx113_1)).trans hx113_1
   replace hx113_2 := (HB.out.cell (World.block_lt_of_cell? w _ hx113_2)).trans hx113_2
   replace hx113_3 := (HB.out.cell (World.block_lt_of_cell? w _ hx113_3)).trans hx113_3
   have HR113_2 := Aside0.mk hi113_2
   have HC113_2 := Aside0.mk hl113_2
   clear hi113_2 hl113_2
   replace p113 := eq_true p113
   replace q113 := eq_true q113
   go_wp2
   go_ret
   exact ⟨dq17, dq15⟩
  rw [if_pos c5] at H
  have c5b0 := decide_eq_true c5
  clear c5
  by_cases c6 : 0 ≤ x6_1
  rotate_left
  ·rw [if_neg c6] at H
   exact absurd H (by simp)
  rw [if_pos c6] at H
  have c6b0 := decide_eq_true c6
  clear c6
  replace H := Option.bind_eq_some_iff.mp H
  obtain ⟨t116, A70, H⟩ := H
  replace H : (spec_l8Deep.l0 k1 l0 a1 (mx x5_1 t116) (wrap64 (x6_1 + 1))) = some r := H
  have A7 := Aside0.mk A70
  clear A70
  obtain ⟨ji8, hji8⟩ : ∃ j_ : Int, (mx x5_1 t116) = j_ := ⟨_, rfl⟩
  replace H : (spec_l8Deep.l0 k1 l0 a1 ji8 (wrap64 (x6_1 + 1))) = some r := by first | (rw [hji8] at H; exact H) | (simp only [hji8] at H ⊢; exact H)
  (try rw [hji8] at A7)
  have hji8_ : (if x5_1 < t116 then t116 else x5_1) = ji8 := hji8
  have H' := Aside0.mk H
  clear H
  have p113 : 0 ≤ (a1 : Int) := of_decide_eq_true dq20
  have q113 : a1 < (l0.length : Int) := of_decide_eq_true dq20
  obtain ⟨ad113, A113_2, c113_2, e113, hx113_0, hx113_1, hx113_2, hx113_3, hl113_2, hi113_2⟩ := at_T49 HR0.out a1 p113 q113
  cases e113
  replace hx113_0 := (HB.out.cell (World.block_lt_of_cell? w _ hx113_0)).trans hx113_0
  replace hx113_1 := (HB.out.cell (World.block_lt_of_cell? w _ hx113_1)).trans hx113_1
  replace hx113_2 := (HB.out.cell (World.block_lt_of_cell? w _ hx113_2)).trans hx113_2
  replace hx113_3 := (HB.out.cell (World.block_lt_of_cell? w _ hx113_3)).trans hx113_3
  have HR113_2 := Aside0.mk hi113_2
  have HC113_2 := Aside0.mk hl113_2
  clear hi113_2 hl113_2
  replace p113 := eq_true p113
  replace q113 := eq_true q113
  have p114 : 0 ≤ (a1 : Int) := of_decide_eq_true dq20
  have q114 : a1 < (l0.length : Int) := of_decide_eq_true dq20
  obtain ⟨ad114, A114_2, c114_2, e114, hx114_0, hx114_1, hx114_2, hx114_3, hl114_2, hi114_2⟩ := at_T49 HR0.out a1 p114 q114
  obtain rfl : ad113 = ad114 := (by injection e114)
  replace hx114_0 := (HB.out.cell (World.block_lt_of_cell? w _ hx114_0)).trans hx114_0
  replace hx114_1 := (HB.out.cell (World.block_lt_of_cell? w _ hx114_1)).trans hx114_1
  replace hx114_2 := (HB.out.cell (World.block_lt_of_cell? w _ hx114_2)).trans hx114_2
  replace hx114_3 := (HB.out.cell (World.block_lt_of_cell? w _ hx114_3)).trans hx114_3
  have HR114_2 := Aside0.mk hi114_2
  have HC114_2 := Aside0.mk hl114_2
  clear hi114_2 hl114_2
  replace p114 := eq_true p114
  replace q114 := eq_true q114
  have ea_ := Option.some.inj (hx113_2.symm.trans hx114_2)
  injection ea_ with ea_ en_ ec_
  subst ea_
  subst ec_
  clear en_
  have p115 : 0 ≤ (x6_1 : Int) := of_decide_eq_true dq20
  have q115 : x6_1 < (((rd_T49 l0 a1).f2).length : Int) := of_decide_eq_true dq20
  obtain ⟨ad115, e115, hx115_0⟩ := Kd.at_int HR114_2.out x6_1 p115 q115
  cases e115
  replace hx115_0 := (HB.out.cell (World.block_lt_of_cell? w _ hx115_0)).trans hx115_0
  replace p115 := eq_true p115
  replace q115 := eq_true q115
  go_wp2_with (first | ((with_reducible refine gate_callee (f := 61) rfl ?_); refine goesL_ (some 27) rfl rfl Try.func61 dq19 rfl #[.slice (some ad113) l0.length c0, .int .i64 (rd ((rd_T49 l0 a1).f2) x6_1)] rfl dq18 ?_; (with_reducible refine (ih k1 dq21 _ _ l0 (rd ((rd_T49 l0 a1).f2) x6_1) t116 _ ?side1 ?side2 A7.out).mono ?_); (case side1 => exact dq4); (case side2 => exact HC0.out); rintro e w9 ⟨rfl, hb⟩; refine ⟨_, rfl, ?_⟩; have n0_ := Aside0.mk (below_step dq15 hb); clear HB; have HB := n0_; clear n0_; (try clear hb); (try clear hb2); (try clear hk); (try clear hi)))
  go_roundg k1
  case measure => have := HK1.out; omega
  case rel => exact ⟨(ji8), (wrap64 (x6_1 + 1)), (by first | rfl | (simp; done) | (simp only [← hji8] <;> (first | rfl | simp)) | (simp [*]; done)), dq13, H', ⟨dq21⟩, ⟨dq15⟩⟩

/-! ### spec_ParticleOk: function 33 -/
mutual
def spec_ParticleOk.j0 : Nat → List (S49) → Bool → Option (Bool)
 | 0, _, _ => none
 | k + 1, x0, x14 => if x14 = true then (some false) else (spec_ParticleOk.l0 k x0 0)
def spec_ParticleOk.l0 : Nat → List (S49) → Int → Option (Bool)
 | 0, _, _ => none
 | k + 1, x0, x3 => if x3 < (x0.length : Int) then (if 0 ≤ x3 then ((spec_l1In.f ((rd_T49 x0 x3).f3) 0 3).bind fun t123 => (if t123 = true then (if ((rd_T49 x0 x3).f0) = 1 then ((spec_NameOk.f k ((rd_T49 x0 x3).f1)).bind fun t124 => (if t124 = true then (if (((rd_T49 x0 x3).f2).length : Int) > 0 then (some false) else (spec_ParticleOk.j2 k x0 x3 ((rd_T49 x0 x3).f0) ((rd_T49 x0 x3).f1) ((rd_T49 x0 x3).f2) ((rd_T49 x0 x3).f3))) else (some false))) else (if ((rd_T49 x0 x3).f0) = 4 then (if ((rd_T49 x0 x3).f1).toList = ([] : List UInt8) then (if (((rd_T49 x0 x3).f2).length : Int) > 0 then (some false) else (spec_ParticleOk.j2 k x0 x3 ((rd_T49 x0 x3).f0) ((rd_T49 x0 x3).f1) ((rd_T49 x0 x3).f2) ((rd_T49 x0 x3).f3))) else (some false)) else (if ((rd_T49 x0 x3).f0) = 2 then (if ((rd_T49 x0 x3).f1).toList = ([] : List UInt8) then (spec_ParticleOk.j2 k x0 x3 ((rd_T49 x0 x3).f0) ((rd_T49 x0 x3).f1) ((rd_T49 x0 x3).f2) ((rd_T49 x0 x3).f3)) else (some false)) else (if ((rd_T49 x0 x3).f0) = 3 then (if ((rd_T49 x0 x3).f1).toList = ([] : List UInt8) then (if (((rd_T49 x0 x3).f2).length : Int) < 2 then (some false) else (spec_ParticleOk.j2 k x0 x3 ((rd_T49 x0 x3).f0) ((rd_T49 x0 x3).f1) ((rd_T49 x0 x3).f2) ((rd_T49 x0 x3).f3))) else (some false)) else (some false))))) else (some false))) else (none)) else ((spec_l8Tree.f k x0 (wrap64 ((x0.length : Int) - 1))).bind fun t117 => (if t117 = 0 then (if 0 ≤ (wrap64 ((x0.length : Int) - 1)) then (if (wrap64 ((x0.length : Int) - 1)) < (x0.length : Int) then (if ((rd_T49 x0 (wrap64 ((x0.length : Int) - 1))).f0) = 1 then (some false) else (if ((rd_T49 x0 (wrap64 ((x0.length : Int) - 1))).f0) = 4 then (some false) else ((spec_l8Deep.f k x0 (wrap64 ((x0.length : Int) - 1))).bind fun t120 => (some (decide (t120 ≤ 10)))))) else (none)) else (none)) else (some false)))
def spec_ParticleOk.j2 : Nat → List (S49) → Int → Int → ByteArray → List Int → Int → Option (Bool)
 | 0, _, _, _, _, _, _ => none
 | k + 1, x0, x3, x123000, x123001, x123002, x123003 => spec_ParticleOk.l1 k x0 x3 0 x123000 x123001 x123002 x123003
def spec_ParticleOk.l1 : Nat → List (S49) → Int → Int → Int → ByteArray → List Int → Int → Option (Bool)
 | 0, _, _, _, _, _, _, _ => none
 | k + 1, x0, x3, x5, x123000, x123001, x123002, x123003 => if x5 < (x123002.length : Int) then (if 0 ≤ x5 then ((spec_l1In.f (rd x123002 x5) 0 (wrap64 (x3 - 1))).bind fun t126 => (if t126 = true then (spec_ParticleOk.l1 k x0 x3 (wrap64 (x5 + 1)) x123000 x123001 x123002 x123003) else (some false))) else (none)) else (spec_ParticleOk.l0 k x0 (wrap64 (x3 + 1)))
end
def spec_ParticleOk.f (k : Nat) (l0 : List (S49)) : Option (Bool) := if (l0.length : Int) < 1 then (spec_ParticleOk.j0 k l0 true) else (spec_ParticleOk.j0 k l0 (decide ((l0.length : Int) > 40)))
set_option maxHeartbeats 8000000 in
set_option maxRecDepth 100000 in
theorem spec_ParticleOk.calls (k : Nat) (A0 : Option Addr) (c0 : Nat) (l0 : List (S49)) (r : Bool) (w : World) (hr0 : Kd.C k49 w A0 l0.length l0) (hc0 : l0.length ≤ c0) (h : spec_ParticleOk.f k l0 = some r) :
  Calls Try.prog 33 #[.slice A0 l0.length c0] w fun e w' => e = .returned (.bool r) ∧ Below w.heap.size w w' := by
 have hu49 := Try.underlying49
 have HR0 := Aside0.mk hr0
 have HC0 := Aside0.mk hc0
 clear hr0 hc0
 have HB := Aside0.mk (Below.refl w.heap.size w)
 have H : (if (l0.length : Int) < 1 then (spec_ParticleOk.j0 k l0 true) else (spec_ParticleOk.j0 k l0 (decide ((l0.length : Int) > 40)))) = some r := h
 clear h
 have HC2 := Aside0.mk H
 clear H
 go_enter Try.func33, Try.ntmps33
 go_upto_region 1 with (fail)
 go_cut [14] (fun v14 wc => ∃ (kq : Nat) (x14_1 : Bool), v14 = .bool x14_1 ∧ Aside0 (spec_ParticleOk.j0 kq l0 x14_1 = some r) ∧ Aside0 (kq ≤ k) ∧ Aside0 (Below w.heap.size w wc))
 case first =>
  have H := HC2.out
  clear HC2
  by_cases c3 : (l0.length : Int) < 1
  ·rw [if_pos c3] at H
   have c3b0 := decide_eq_true c3
   have c3b1 : decide (l0.length < 1) = true := decide_eq_true dq22
   clear c3
   (first | rw [c3b0] | (simp only [i64_w, i32_w]; rw [c3b0]) | skip)
   have H' := Aside0.mk H
   clear H
   go_wp2
   go_meet
   case rel => exact ⟨_, (true), dq13, H', ⟨dq39⟩, ⟨dq15⟩⟩
  rw [if_neg c3] at H
  have c3b0 := decide_eq_false c3
  have c3b1 : decide (l0.length < 1) = false := decide_eq_false dq22
  clear c3
  (first | rw [c3b0] | (simp only [i64_w, i32_w]; rw [c3b0]) | skip)
  have H' := Aside0.mk H
  clear H
  go_wp2
  go_meet
  case rel => exact ⟨_, (decide ((l0.length : Int) > 40)), dq13, H', ⟨dq39⟩, ⟨dq15⟩⟩
 clear HC2
 try clear p2
 try clear c3
 try clear c3b0
 try clear c3b1
 obtain ⟨kq, x14_1, rfl, HA, HJ1, HB⟩ := hcut
 cases kq with
 | zero => exact absurd HA.out (by simp [spec_ParticleOk.j0])
 | succ kj1 =>
  have H := HA.out
  clear HA
  simp only [spec_ParticleOk.j0] at H
  by_cases c4 : x14_1 = true
  ·subst c4
   have H1 : (some false) = some r := by rw [if_pos rfl] at H; exact H
   clear H
   have H := H1
   clear H1
   obtain rfl := Option.some.inj H
   go_wp2
   go_ret
   exact ⟨dq17, dq15⟩
  replace c4 := Bool.eq_false_iff.mpr c4
  subst c4
  have H1 : (spec_ParticleOk.l0 kj1 l0 0) = some r := by rw [if_neg (show ¬ (false = true) by decide)] at H; exact H
  clear H
  have H := H1
  clear H1
  have H' := Aside0.mk H
  clear H
  go_wp2
  go_loopg [3] kj1 (fun kq v3 w' => ∃ (x3_2 : Int), v3 = .int .i64 x3_2 ∧ Aside0 (spec_ParticleOk.l0 kq l0 x3_2 = some r) ∧ Aside0 (kq ≤ kj1) ∧ Aside0 (Below w.heap.size w w'))
  case atStart => exact ⟨(0), dq13, H', ⟨Nat.le_refl _⟩, ⟨dq15⟩⟩
  clear H'
  try clear p2
  try clear c3
  try clear c3b0
  try clear c3b1
  try clear c4
  try clear p2
  obtain ⟨x3_2, rfl, HA, HK2, HB⟩ := hrel
  cases gk with
  | zero => exact absurd HA.out (by simp [spec_ParticleOk.l0])
  | succ k2 =>
   have H := HA.out
   clear HA
   simp only [spec_ParticleOk.l0] at H
   by_cases c5 : x3_2 < (l0.length : Int)
   rotate_left
   ·rw [if_neg c5] at H
    have c5b0 := decide_eq_false c5
    clear c5
    replace H := Option.bind_eq_some_iff.mp H
    obtain ⟨t117, A440, H⟩ := H
    replace H : (if t117 = 0 then (if 0 ≤ (wrap64 ((l0.length : Int) - 1)) then (if (wrap64 ((l0.length : Int) - 1)) < (l0.length : Int) then (if ((rd_T49 l0 (wrap64 ((l0.length : Int) - 1))).f0) = 1 then (some false) else (if ((rd_T49 l0 (wrap64 ((l0.length : Int) - 1))).f0) = 4 then (some false) else ((spec_l8Deep.f k2 l0 (wrap64 ((l0.length : Int) - 1))).bind fun t120 => (some (decide (t120 ≤ 10)))))) else (none)) else (none)) else (some false)) = some r := H
    have A44 := Aside0.mk A440
    clear A440
    by_cases c45 : t117 = 0
    rotate_left
    ·rw [if_neg c45] at H
     have c45b0 := beq_eq_false_iff_ne.mpr c45
     have c45b1 := bne_iff_ne.mpr c45
     obtain rfl := Option.some.inj H
     go_wp2_with (first | ((with_reducible refine gate_callee (f := 60) rfl ?_); refine goesL_ (some 91) rfl rfl Try.func60 dq19 rfl #[.slice A0 l0.length c0, .int .i64 (wrap64 ((l0.length : Int) - 1))] rfl dq18 ?_; (with_reducible refine (spec_l8Tree.calls k2 _ _ l0 (wrap64 ((l0.length : Int) - 1)) t117 _ ?side1 ?side2 A44.out).mono ?_); (case side1 => exact dq4); (case side2 => exact HC0.out); rintro e w' ⟨rfl, ⟨nd, rfl⟩⟩; refine ⟨_, rfl, ?_⟩))
     go_ret
     exact ⟨dq17, dq15⟩
    rw [if_pos c45] at H
    have c45b0 := beq_iff_eq.mpr c45
    have c45b1 := bne_eq_false_iff_eq.mpr c45
    clear c45
    obtain ⟨ji46, hji46⟩ : ∃ j_ : Int, (wrap64 ((l0.length : Int) - 1)) = j_ := ⟨_, rfl⟩
    replace H : (if 0 ≤ (ji46) then (if (ji46) < (l0.length : Int) then (if ((rd_T49 l0 (ji46)).f0) = 1 then (some false) else (if ((rd_T49 l0 (ji46)).f0) = 4 then (some false) else ((spec_l8Deep.f k2 l0 (ji46)).bind fun t120 => (some (decide (t120 ≤ 10)))))) else (none)) else (none)) = some r := by first | (rw [hji46] at H; exact H) | (simp only [hji46] at H ⊢; exact H)
    (try rw [hji46] at A44)
    have hji46w : (IntKind.i64.wrap ((l0.length : Int) - 1)) = ji46 := (i64_w _).trans hji46
    by_cases c47 : 0 ≤ (ji46)
    rotate_left
    ·rw [if_neg c47] at H
     exact absurd H (by simp)
    rw [if_pos c47] at H
    have c47b0 := decide_eq_true c47
    clear c47
    by_cases c48 : (ji46) < (l0.length : Int)
    rotate_left
    ·rw [if_neg c48] at H
     exact absurd H (by simp)
    rw [if_pos c48] at H
    have c48b0 := decide_eq_true c48
    clear c48
    by_cases c49 : ((rd_T49 l0 (ji46)).f0) = 1
    ·rw [if_pos c49] at H
     have c49b0 := beq_iff_eq.mpr c49
     have c49b1 := bne_eq_false_iff_eq.mpr c49
     clear c49
     obtain rfl := Option.some.inj H
     go_wp2_with (first | ((with_reducible refine gate_callee (f := 60) rfl ?_); refine goesL_ (some 91) rfl rfl Try.func60 dq19 rfl #[.slice A0 l0.length c0, .int .i64 ji46] rfl dq44 ?_; (with_reducible refine (spec_l8Tree.calls k2 _ _ l0 ji46 t117 _ ?side1 ?side2 A44.out).mono ?_); (case side1 => exact dq4); (case side2 => exact HC0.out); rintro e w' ⟨rfl, ⟨nd, rfl⟩⟩; refine ⟨_, rfl, ?_⟩; have p118 : 0 ≤ ((ji46) : Int) := of_decide_eq_true dq20; have q118 : (ji46) < (l0.length : Int) := of_decide_eq_true dq20; obtain ⟨ad118, A118_2, c118_2, e118, hx118_0, hx118_1, hx118_2, hx118_3, hl118_2, hi118_2⟩ := at_T49 HR0.out (ji46) p118 q118; cases e118; replace hx118_0 := (HB.out.cell (World.block_lt_of_cell? w _ hx118_0)).trans hx118_0; replace hx118_1 := (HB.out.cell (World.block_lt_of_cell? w _ hx118_1)).trans hx118_1; replace hx118_2 := (HB.out.cell (World.block_lt_of_cell? w _ hx118_2)).trans hx118_2; replace hx118_3 := (HB.out.cell (World.block_lt_of_cell? w _ hx118_3)).trans hx118_3; have HR118_2 := Aside0.mk hi118_2; have HC118_2 := Aside0.mk hl118_2; clear hi118_2 hl118_2; replace p118 := eq_true p118; replace q118 := eq_true q118))
     go_ret
     exact ⟨dq45, dq15⟩
    rw [if_neg c49] at H
    have c49b0 := beq_eq_false_iff_ne.mpr c49
    have c49b1 := bne_iff_ne.mpr c49
    by_cases c50 : ((rd_T49 l0 (ji46)).f0) = 4
    ·rw [if_pos c50] at H
     have c50b0 := beq_iff_eq.mpr c50
     have c50b1 := bne_eq_false_iff_eq.mpr c50
     clear c50
     obtain rfl := Option.some.inj H
     go_wp2_with (first | ((with_reducible refine gate_callee (f := 60) rfl ?_); refine goesL_ (some 91) rfl rfl Try.func60 dq19 rfl #[.slice A0 l0.length c0, .int .i64 ji46] rfl dq44 ?_; (with_reducible refine (spec_l8Tree.calls k2 _ _ l0 ji46 t117 _ ?side1 ?side2 A44.out).mono ?_); (case side1 => exact dq4); (case side2 => exact HC0.out); rintro e w' ⟨rfl, ⟨nd, rfl⟩⟩; refine ⟨_, rfl, ?_⟩; have p118 : 0 ≤ ((ji46) : Int) := of_decide_eq_true dq20; have q118 : (ji46) < (l0.length : Int) := of_decide_eq_true dq20; obtain ⟨ad118, A118_2, c118_2, e118, hx118_0, hx118_1, hx118_2, hx118_3, hl118_2, hi118_2⟩ := at_T49 HR0.out (ji46) p118 q118; cases e118; replace hx118_0 := (HB.out.cell (World.block_lt_of_cell? w _ hx118_0)).trans hx118_0; replace hx118_1 := (HB.out.cell (World.block_lt_of_cell? w _ hx118_1)).trans hx118_1; replace hx118_2 := (HB.out.cell (World.block_lt_of_cell? w _ hx118_2)).trans hx118_2; replace hx118_3 := (HB.out.cell (World.block_lt_of_cell? w _ hx118_3)).trans hx118_3; have HR118_2 := Aside0.mk hi118_2; have HC118_2 := Aside0.mk hl118_2; clear hi118_2 hl118_2; replace p118 := eq_true p118; replace q118 := eq_true q118; have p119 : 0 ≤ ((ji46) : Int) := of_decide_eq_true dq20; have q119 : (ji46) < (l0.length : Int) := of_decide_eq_true dq20; obtain ⟨ad119, A119_2, c119_2, e119, hx119_0, hx119_1, hx119_2, hx119_3, hl119_2, hi119_2⟩ := at_T49 HR0.out (ji46) p119 q119; obtain rfl : ad118 = ad119 := (by injection e119); replace hx119_0 := (HB.out.cell (World.block_lt_of_cell? w _ hx119_0)).trans hx119_0; replace hx119_1 := (HB.out.cell (World.block_lt_of_cell? w _ hx119_1)).trans hx119_1; replace hx119_2 := (HB.out.cell (World.block_lt_of_cell? w _ hx119_2)).trans hx119_2; replace hx119_3 := (HB.out.cell (World.block_lt_of_cell? w _ hx119_3)).trans hx119_3; have HR119_2 := Aside0.mk hi119_2; have HC119_2 := Aside0.mk hl119_2; clear hi119_2 hl119_2; replace p119 := eq_true p119; replace q119 := eq_true q119; have ea_ := Option.some.inj (hx118_2.symm.trans hx119_2); injection ea_ with ea_ en_ ec_; subst ea_; subst ec_; clear en_))
     go_ret
     exact ⟨dq45, dq15⟩
    rw [if_neg c50] at H
    have c50b0 := beq_eq_false_iff_ne.mpr c50
    have c50b1 := bne_iff_ne.mpr c50
    replace H := Option.bind_eq_some_iff.mp H
    obtain ⟨t120, A510, H⟩ := H
    replace H : (some (decide (t120 ≤ 10))) = some r := H
    have A51 := Aside0.mk A510
    clear A510
    obtain rfl := Option.some.inj H
    go_wp2_with (first | ((with_reducible refine gate_callee (f := 60) rfl ?_); refine goesL_ (some 91) rfl rfl Try.func60 dq19 rfl #[.slice A0 l0.length c0, .int .i64 ji46] rfl dq44 ?_; (with_reducible refine (spec_l8Tree.calls k2 _ _ l0 ji46 t117 _ ?side1 ?side2 A44.out).mono ?_); (case side1 => exact dq4); (case side2 => exact HC0.out); rintro e w' ⟨rfl, ⟨nd, rfl⟩⟩; refine ⟨_, rfl, ?_⟩; have p118 : 0 ≤ ((ji46) : Int) := of_decide_eq_true dq20; have q118 : (ji46) < (l0.length : Int) := of_decide_eq_true dq20; obtain ⟨ad118, A118_2, c118_2, e118, hx118_0, hx118_1, hx118_2, hx118_3, hl118_2, hi118_2⟩ := at_T49 HR0.out (ji46) p118 q118; cases e118; replace hx118_0 := (HB.out.cell (World.block_lt_of_cell? w _ hx118_0)).trans hx118_0; replace hx118_1 := (HB.out.cell (World.block_lt_of_cell? w _ hx118_1)).trans hx118_1; replace hx118_2 := (HB.out.cell (World.block_lt_of_cell? w _ hx118_2)).trans hx118_2; replace hx118_3 := (HB.out.cell (World.block_lt_of_cell? w _ hx118_3)).trans hx118_3; have HR118_2 := Aside0.mk hi118_2; have HC118_2 := Aside0.mk hl118_2; clear hi118_2 hl118_2; replace p118 := eq_true p118; replace q118 := eq_true q118; have p119 : 0 ≤ ((ji46) : Int) := of_decide_eq_true dq20; have q119 : (ji46) < (l0.length : Int) := of_decide_eq_true dq20; obtain ⟨ad119, A119_2, c119_2, e119, hx119_0, hx119_1, hx119_2, hx119_3, hl119_2, hi119_2⟩ := at_T49 HR0.out (ji46) p119 q119; obtain rfl : ad118 = ad119 := (by injection e119); replace hx119_0 := (HB.out.cell (World.block_lt_of_cell? w _ hx119_0)).trans hx119_0; replace hx119_1 := (HB.out.cell (World.block_lt_of_cell? w _ hx119_1)).trans hx119_1; replace hx119_2 := (HB.out.cell (World.block_lt_of_cell? w _ hx119_2)).trans hx119_2; replace hx119_3 := (HB.out.cell (World.block_lt_of_cell? w _ hx119_3)).trans hx119_3; have HR119_2 := Aside0.mk hi119_2; have HC119_2 := Aside0.mk hl119_2; clear hi119_2 hl119_2; replace p119 := eq_true p119; replace q119 := eq_true q119; have ea_ := Option.some.inj (hx118_2.symm.trans hx119_2); injection ea_ with ea_ en_ ec_; subst ea_; subst ec_; clear en_) | (go_at_call 61; (with_reducible refine (spec_l8Deep.calls k2 _ _ l0 ji46 t120 _ ?side1 ?side2 A51.out).mono ?_); (case side1 => repeat (first | exact (Kd.C_below HR0.out dq15) | (with_reducible refine Kd.C_alloc ?_ _) | (with_reducible refine Kd.C_drewN ?_ _) | (with_reducible refine Kd.C_drew ?_))); (case side2 => exact HC0.out); rintro e w52 ⟨rfl, hb⟩; have n0_ := Aside0.mk (below_step dq15 hb); clear HB; have HB := n0_; clear n0_; (try clear hb); (try clear hb2); (try clear hk); (try clear hi)))
    go_ret
    exact ⟨dq45, dq15⟩
   rw [if_pos c5] at H
   have c5b0 := decide_eq_true c5
   clear c5
   by_cases c6 : 0 ≤ x3_2
   rotate_left
   ·rw [if_neg c6] at H
    exact absurd H (by simp)
   rw [if_pos c6] at H
   have c6b0 := decide_eq_true c6
   clear c6
   replace H := Option.bind_eq_some_iff.mp H
   obtain ⟨t123, A70, H⟩ := H
   replace H : (if t123 = true then (if ((rd_T49 l0 x3_2).f0) = 1 then ((spec_NameOk.f k2 ((rd_T49 l0 x3_2).f1)).bind fun t124 => (if t124 = true then (if (((rd_T49 l0 x3_2).f2).length : Int) > 0 then (some false) else (spec_ParticleOk.j2 k2 l0 x3_2 ((rd_T49 l0 x3_2).f0) ((rd_T49 l0 x3_2).f1) ((rd_T49 l0 x3_2).f2) ((rd_T49 l0 x3_2).f3))) else (some false))) else (if ((rd_T49 l0 x3_2).f0) = 4 then (if ((rd_T49 l0 x3_2).f1).toList = ([] : List UInt8) then (if (((rd_T49 l0 x3_2).f2).length : Int) > 0 then (some false) else (spec_ParticleOk.j2 k2 l0 x3_2 ((rd_T49 l0 x3_2).f0) ((rd_T49 l0 x3_2).f1) ((rd_T49 l0 x3_2).f2) ((rd_T49 l0 x3_2).f3))) else (some false)) else (if ((rd_T49 l0 x3_2).f0) = 2 then (if ((rd_T49 l0 x3_2).f1).toList = ([] : List UInt8) then (spec_ParticleOk.j2 k2 l0 x3_2 ((rd_T49 l0 x3_2).f0) ((rd_T49 l0 x3_2).f1) ((rd_T49 l0 x3_2).f2) ((rd_T49 l0 x3_2).f3)) else (some false)) else (if ((rd_T49 l0 x3_2).f0) = 3 then (if ((rd_T49 l0 x3_2).f1).toList = ([] : List UInt8) then (if (((rd_T49 l0 x3_2).f2).length : Int) < 2 then (some false) else (spec_ParticleOk.j2 k2 l0 x3_2 ((rd_T49 l0 x3_2).f0) ((rd_T49 l0 x3_2).f1) ((rd_T49 l0 x3_2).f2) ((rd_T49 l0 x3_2).f3))) else (some false)) else (some false))))) else (some false)) = some r := H
   have A7 := Aside0.mk A70
   clear A70
   by_cases c8 : t123 = true
   rotate_left
   ·replace c8 := Bool.eq_false_iff.mpr c8
    subst c8
    have H1 : (some false) = some r := by rw [if_neg (show ¬ (false = true) by decide)] at H; exact H
    clear H
    have H := H1
    clear H1
    obtain rfl := Option.some.inj H
    have p121 : 0 ≤ (x3_2 : Int) := of_decide_eq_true dq20
    have q121 : x3_2 < (l0.length : Int) := of_decide_eq_true dq20
    obtain ⟨ad121, A121_2, c121_2, e121, hx121_0, hx121_1, hx121_2, hx121_3, hl121_2, hi121_2⟩ := at_T49 HR0.out x3_2 p121 q121
    cases e121
    replace hx121_0 := (HB.out.cell (World.block_lt_of_cell? w _ hx121_0)).trans hx121_0
    replace hx121_1 := (HB.out.cell (World.block_lt_of_cell? w _ hx121_1)).trans hx121_1
    replace hx121_2 := (HB.out.cell (World.block_lt_of_cell? w _ hx121_2)).trans hx121_2
    replace hx121_3 := (HB.out.cell (World.block_lt_of_cell? w _ hx121_3)).trans hx121_3
    have HR121_2 := Aside0.mk hi121_2
    have HC121_2 := Aside0.mk hl121_2
    clear hi121_2 hl121_2
    replace p121 := eq_true p121
    replace q121 := eq_true q121
    go_wp2_with (first | ((with_reducible refine gate_dst (N := 4) rfl ?_); (try (refine gate_guard (by rfl) ?_; dsimp only)); refine box_event ?hg (N := 4) ?hd (cs := #[.int .i64 0, .string (⟨#[]⟩ : ByteArray), .slice none 0 0, .int .i64 0]) (t := 49) ?hr ?_; (case hd => rfl); (case hg => rfl); (case hr => exact dq0); intro gb122 hg w42 hbox hb; have n0_ := Aside0.mk (below_step dq15 hb); have n1_ := Aside0.mk (hbox); have n2_ := Aside0.mk ((dq14 : w.heap.size ≤ gb122)); have n3_ := Aside0.mk ((dq14 : w.heap.size ≤ gb122)); clear HB; have HB := n0_; have BK122 := n1_; have GW122 := n2_; have GE122 := n3_; clear n0_ n1_ n2_ n3_; clear hb hbox hg; obtain ⟨⟨hcz43_0, hcz43_1, hcz43_2, hcz43_3⟩, hfz43_0, hfz43_1, hfz43_2, hfz43_3⟩ := blkC4 BK122.out) | ((with_reducible refine gate_callee (f := 58) rfl ?_); refine goesL_ (some 27) rfl rfl Try.func58 dq19 rfl #[.int .i64 ((rd_T49 l0 x3_2).f3), .int .i64 0, .int .i64 3] rfl dq18 ?_; (with_reducible refine (spec_l1In.calls ((rd_T49 l0 x3_2).f3) 0 3 false _ A7.out).mono ?_); rintro e w' ⟨rfl, ⟨nd, rfl⟩⟩; refine ⟨_, rfl, ?_⟩))
    go_ret
    exact ⟨dq17, dq41⟩
   subst c8
   have H1 : (if ((rd_T49 l0 x3_2).f0) = 1 then ((spec_NameOk.f k2 ((rd_T49 l0 x3_2).f1)).bind fun t124 => (if t124 = true then (if (((rd_T49 l0 x3_2).f2).length : Int) > 0 then (some false) else (spec_ParticleOk.j2 k2 l0 x3_2 ((rd_T49 l0 x3_2).f0) ((rd_T49 l0 x3_2).f1) ((rd_T49 l0 x3_2).f2) ((rd_T49 l0 x3_2).f3))) else (some false))) else (if ((rd_T49 l0 x3_2).f0) = 4 then (if ((rd_T49 l0 x3_2).f1).toList = ([] : List UInt8) then (if (((rd_T49 l0 x3_2).f2).length : Int) > 0 then (some false) else (spec_ParticleOk.j2 k2 l0 x3_2 ((rd_T49 l0 x3_2).f0) ((rd_T49 l0 x3_2).f1) ((rd_T49 l0 x3_2).f2) ((rd_T49 l0 x3_2).f3))) else (some false)) else (if ((rd_T49 l0 x3_2).f0) = 2 then (if ((rd_T49 l0 x3_2).f1).toList = ([] : List UInt8) then (spec_ParticleOk.j2 k2 l0 x3_2 ((rd_T49 l0 x3_2).f0) ((rd_T49 l0 x3_2).f1) ((rd_T49 l0 x3_2).f2) ((rd_T49 l0 x3_2).f3)) else (some false)) else (if ((rd_T49 l0 x3_2).f0) = 3 then (if ((rd_T49 l0 x3_2).f1).toList = ([] : List UInt8) then (if (((rd_T49 l0 x3_2).f2).length : Int) < 2 then (some false) else (spec_ParticleOk.j2 k2 l0 x3_2 ((rd_T49 l0 x3_2).f0) ((rd_T49 l0 x3_2).f1) ((rd_T49 l0 x3_2).f2) ((rd_T49 l0 x3_2).f3))) else (some false)) else (some false))))) = some r := by rw [if_pos rfl] at H; exact H
   clear H
   have H := H1
   clear H1
   have HC9 := Aside0.mk H
   clear H
   have p121 : 0 ≤ (x3_2 : Int) := of_decide_eq_true dq20
   have q121 : x3_2 < (l0.length : Int) := of_decide_eq_true dq20
   obtain ⟨ad121, A121_2, c121_2, e121, hx121_0, hx121_1, hx121_2, hx121_3, hl121_2, hi121_2⟩ := at_T49 HR0.out x3_2 p121 q121
   cases e121
   replace hx121_0 := (HB.out.cell (World.block_lt_of_cell? w _ hx121_0)).trans hx121_0
   replace hx121_1 := (HB.out.cell (World.block_lt_of_cell? w _ hx121_1)).trans hx121_1
   replace hx121_2 := (HB.out.cell (World.block_lt_of_cell? w _ hx121_2)).trans hx121_2
   replace hx121_3 := (HB.out.cell (World.block_lt_of_cell? w _ hx121_3)).trans hx121_3
   have HR121_2 := Aside0.mk hi121_2
   have HC121_2 := Aside0.mk hl121_2
   clear hi121_2 hl121_2
   replace p121 := eq_true p121
   replace q121 := eq_true q121
   go_upto_block 2 with (first | ((with_reducible refine gate_dst (N := 4) rfl ?_); (try (refine gate_guard (by rfl) ?_; dsimp only)); refine box_event ?hg (N := 4) ?hd (cs := #[.int .i64 0, .string (⟨#[]⟩ : ByteArray), .slice none 0 0, .int .i64 0]) (t := 49) ?hr ?_; (case hd => rfl); (case hg => rfl); (case hr => exact dq0); intro gb122 hg w10 hbox hb; have n0_ := Aside0.mk (below_step dq15 hb); have n1_ := Aside0.mk (hbox); have n2_ := Aside0.mk ((dq14 : w.heap.size ≤ gb122)); have n3_ := Aside0.mk ((dq14 : w.heap.size ≤ gb122)); clear HB; have HB := n0_; have BK122 := n1_; have GW122 := n2_; have GE122 := n3_; clear n0_ n1_ n2_ n3_; clear hb hbox hg; obtain ⟨⟨hcz11_0, hcz11_1, hcz11_2, hcz11_3⟩, hfz11_0, hfz11_1, hfz11_2, hfz11_3⟩ := blkC4 BK122.out) | ((with_reducible refine gate_callee (f := 58) rfl ?_); refine goesL_ (some 27) rfl rfl Try.func58 dq19 rfl #[.int .i64 ((rd_T49 l0 x3_2).f3), .int .i64 0, .int .i64 3] rfl dq18 ?_; (with_reducible refine (spec_l1In.calls ((rd_T49 l0 x3_2).f3) 0 3 true _ A7.out).mono ?_); rintro e w' ⟨rfl, ⟨nd, rfl⟩⟩; refine ⟨_, rfl, ?_⟩))
   (try simp only [Act.put, List.setIfInBounds_toArray, List.set_cons_zero, List.set_cons_succ])
   go_cut [] (fun wc => ∃ (kq : Nat), Aside0 (spec_ParticleOk.j2 kq l0 x3_2 ((rd_T49 l0 x3_2).f0) ((rd_T49 l0 x3_2).f1) ((rd_T49 l0 x3_2).f2) ((rd_T49 l0 x3_2).f3) = some r) ∧ Aside0 (kq ≤ k2) ∧ Aside0 (wc.heap[gb122]? = some (.cells #[.int .i64 ((rd_T49 l0 x3_2).f0), .string ((rd_T49 l0 x3_2).f1), (.slice A121_2 ((rd_T49 l0 x3_2).f2).length c121_2), .int .i64 ((rd_T49 l0 x3_2).f3)] 49 (0, 0))) ∧ Aside0 (Below w.heap.size w wc))
   case first =>
    have H := HC9.out
    clear HC9
    by_cases c12 : ((rd_T49 l0 x3_2).f0) = 1
    ·rw [if_pos c12] at H
     have c12b0 := beq_iff_eq.mpr c12
     have c12b1 := bne_eq_false_iff_eq.mpr c12
     clear c12
     (first | rw [c12b0] | (simp only [i64_w, i32_w]; rw [c12b0]) | skip)
     replace H := Option.bind_eq_some_iff.mp H
     obtain ⟨t124, A130, H⟩ := H
     replace H : (if t124 = true then (if (((rd_T49 l0 x3_2).f2).length : Int) > 0 then (some false) else (spec_ParticleOk.j2 k2 l0 x3_2 ((rd_T49 l0 x3_2).f0) ((rd_T49 l0 x3_2).f1) ((rd_T49 l0 x3_2).f2) ((rd_T49 l0 x3_2).f3))) else (some false)) = some r := H
     have A13 := Aside0.mk A130
     clear A130
     by_cases c14 : t124 = true
     rotate_left
     ·replace c14 := Bool.eq_false_iff.mpr c14
      subst c14
      have H1 : (some false) = some r := by rw [if_neg (show ¬ (false = true) by decide)] at H; exact H
      clear H
      have H := H1
      clear H1
      obtain rfl := Option.some.inj H
      obtain ⟨⟨hcz18_0, hcz18_1, hcz18_2, hcz18_3⟩, hfz18_0, hfz18_1, hfz18_2, hfz18_3⟩ := blkC4 BK122.out
      go_wp2_with (first | ((with_reducible refine gate_callee (f := 59) rfl ?_); refine goesL_ (some 35) rfl rfl Try.func59 dq19 rfl #[.string ((rd_T49 l0 x3_2).f1)] rfl dq18 ?_; (with_reducible refine (spec_NameOk.calls k2 ((rd_T49 l0 x3_2).f1) false _ A13.out).mono ?_); rintro e w' ⟨rfl, ⟨nd, rfl⟩⟩; refine ⟨_, rfl, ?_⟩))
      go_ret
      exact ⟨dq17, dq41⟩
     subst c14
     have H1 : (if (((rd_T49 l0 x3_2).f2).length : Int) > 0 then (some false) else (spec_ParticleOk.j2 k2 l0 x3_2 ((rd_T49 l0 x3_2).f0) ((rd_T49 l0 x3_2).f1) ((rd_T49 l0 x3_2).f2) ((rd_T49 l0 x3_2).f3))) = some r := by rw [if_pos rfl] at H; exact H
     clear H
     have H := H1
     clear H1
     by_cases c15 : (((rd_T49 l0 x3_2).f2).length : Int) > 0
     ·rw [if_pos c15] at H
      have c15b0 : decide (0 < (((rd_T49 l0 x3_2).f2).length : Int)) = true := decide_eq_true c15
      have c15b1 : decide (0 < ((rd_T49 l0 x3_2).f2).length) = true := decide_eq_true dq22
      clear c15
      obtain rfl := Option.some.inj H
      obtain ⟨⟨hcz16_0, hcz16_1, hcz16_2, hcz16_3⟩, hfz16_0, hfz16_1, hfz16_2, hfz16_3⟩ := blkC4 BK122.out
      go_wp2_with (first | ((with_reducible refine gate_callee (f := 59) rfl ?_); refine goesL_ (some 35) rfl rfl Try.func59 dq19 rfl #[.string ((rd_T49 l0 x3_2).f1)] rfl dq18 ?_; (with_reducible refine (spec_NameOk.calls k2 ((rd_T49 l0 x3_2).f1) true _ A13.out).mono ?_); rintro e w' ⟨rfl, ⟨nd, rfl⟩⟩; refine ⟨_, rfl, ?_⟩))
      go_ret
      exact ⟨dq17, dq41⟩
     rw [if_neg c15] at H
     have c15b0 : decide (0 < (((rd_T49 l0 x3_2).f2).length : Int)) = false := decide_eq_false c15
     have c15b1 : decide (0 < ((rd_T49 l0 x3_2).f2).length) = false := decide_eq_false dq22
     clear c15
     have H' := Aside0.mk H
     clear H
     obtain ⟨⟨hcz17_0, hcz17_1, hcz17_2, hcz17_3⟩, hfz17_0, hfz17_1, hfz17_2, hfz17_3⟩ := blkC4 BK122.out
     go_wp2_with (first | ((with_reducible refine gate_callee (f := 59) rfl ?_); refine goesL_ (some 35) rfl rfl Try.func59 dq19 rfl #[.string ((rd_T49 l0 x3_2).f1)] rfl dq18 ?_; (with_reducible refine (spec_NameOk.calls k2 ((rd_T49 l0 x3_2).f1) true _ A13.out).mono ?_); rintro e w' ⟨rfl, ⟨nd, rfl⟩⟩; refine ⟨_, rfl, ?_⟩))
     go_meet
     case rel => exact ⟨_, H', ⟨dq43⟩, ⟨dq42⟩, ⟨dq41⟩⟩
    rw [if_neg c12] at H
    have c12b0 := beq_eq_false_iff_ne.mpr c12
    have c12b1 := bne_iff_ne.mpr c12
    (first | rw [c12b0] | (simp only [i64_w, i32_w]; rw [c12b0]) | skip)
    by_cases c19 : ((rd_T49 l0 x3_2).f0) = 4
    ·rw [if_pos c19] at H
     have c19b0 := beq_iff_eq.mpr c19
     have c19b1 := bne_eq_false_iff_eq.mpr c19
     clear c19
     by_cases c20 : ((rd_T49 l0 x3_2).f1).toList = ([] : List UInt8)
     rotate_left
     ·rw [if_neg c20] at H
      have c20b0 := beq_eq_false_iff_ne.mpr c20
      have c20b1 := bne_iff_ne.mpr c20
      obtain rfl := Option.some.inj H
      obtain ⟨⟨hcz24_0, hcz24_1, hcz24_2, hcz24_3⟩, hfz24_0, hfz24_1, hfz24_2, hfz24_3⟩ := blkC4 BK122.out
      go_wp2
      go_ret
      exact ⟨dq17, dq41⟩
     rw [if_pos c20] at H
     have c20b0 := beq_iff_eq.mpr c20
     have c20b1 := bne_eq_false_iff_eq.mpr c20
     clear c20
     by_cases c21 : (((rd_T49 l0 x3_2).f2).length : Int) > 0
     ·rw [if_pos c21] at H
      have c21b0 : decide (0 < (((rd_T49 l0 x3_2).f2).length : Int)) = true := decide_eq_true c21
      have c21b1 : decide (0 < ((rd_T49 l0 x3_2).f2).length) = true := decide_eq_true dq22
      clear c21
      obtain rfl := Option.some.inj H
      obtain ⟨⟨hcz22_0, hcz22_1, hcz22_2, hcz22_3⟩, hfz22_0, hfz22_1, hfz22_2, hfz22_3⟩ := blkC4 BK122.out
      go_wp2
      go_ret
      exact ⟨dq17, dq41⟩
     rw [if_neg c21] at H
     have c21b0 : decide (0 < (((rd_T49 l0 x3_2).f2).length : Int)) = false := decide_eq_false c21
     have c21b1 : decide (0 < ((rd_T49 l0 x3_2).f2).length) = false := decide_eq_false dq22
     clear c21
     have H' := Aside0.mk H
     clear H
     obtain ⟨⟨hcz23_0, hcz23_1, hcz23_2, hcz23_3⟩, hfz23_0, hfz23_1, hfz23_2, hfz23_3⟩ := blkC4 BK122.out
     go_wp2
     go_meet
     case rel => exact ⟨_, H', ⟨dq43⟩, ⟨dq42⟩, ⟨dq41⟩⟩
    rw [if_neg c19] at H
    have c19b0 := beq_eq_false_iff_ne.mpr c19
    have c19b1 := bne_iff_ne.mpr c19
    by_cases c25 : ((rd_T49 l0 x3_2).f0) = 2
    ·rw [if_pos c25] at H
     have c25b0 := beq_iff_eq.mpr c25
     have c25b1 := bne_eq_false_iff_eq.mpr c25
     clear c25
     by_cases c26 : ((rd_T49 l0 x3_2).f1).toList = ([] : List UInt8)
     rotate_left
     ·rw [if_neg c26] at H
      have c26b0 := beq_eq_false_iff_ne.mpr c26
      have c26b1 := bne_iff_ne.mpr c26
      obtain rfl := Option.some.inj H
      obtain ⟨⟨hcz28_0, hcz28_1, hcz28_2, hcz28_3⟩, hfz28_0, hfz28_1, hfz28_2, hfz28_3⟩ := blkC4 BK122.out
      go_wp2
      go_ret
      exact ⟨dq17, dq41⟩
     rw [if_pos c26] at H
     have c26b0 := beq_iff_eq.mpr c26
     have c26b1 := bne_eq_false_iff_eq.mpr c26
     clear c26
     have H' := Aside0.mk H
     clear H
     obtain ⟨⟨hcz27_0, hcz27_1, hcz27_2, hcz27_3⟩, hfz27_0, hfz27_1, hfz27_2, hfz27_3⟩ := blkC4 BK122.out
     go_wp2
     go_meet
     case rel => exact ⟨_, H', ⟨dq43⟩, ⟨dq42⟩, ⟨dq41⟩⟩
    rw [if_neg c25] at H
    have c25b0 := beq_eq_false_iff_ne.mpr c25
    have c25b1 := bne_iff_ne.mpr c25
    by_cases c29 : ((rd_T49 l0 x3_2).f0) = 3
    rotate_left
    ·rw [if_neg c29] at H
     have c29b0 := beq_eq_false_iff_ne.mpr c29
     have c29b1 := bne_iff_ne.mpr c29
     obtain rfl := Option.some.inj H
     go_wp2
     go_ret
     exact ⟨dq17, dq41⟩
    rw [if_pos c29] at H
    have c29b0 := beq_iff_eq.mpr c29
    have c29b1 := bne_eq_false_iff_eq.mpr c29
    clear c29
    by_cases c30 : ((rd_T49 l0 x3_2).f1).toList = ([] : List UInt8)
    rotate_left
    ·rw [if_neg c30] at H
     have c30b0 := beq_eq_false_iff_ne.mpr c30
     have c30b1 := bne_iff_ne.mpr c30
     obtain rfl := Option.some.inj H
     obtain ⟨⟨hcz34_0, hcz34_1, hcz34_2, hcz34_3⟩, hfz34_0, hfz34_1, hfz34_2, hfz34_3⟩ := blkC4 BK122.out
     go_wp2
     go_ret
     exact ⟨dq17, dq41⟩
    rw [if_pos c30] at H
    have c30b0 := beq_iff_eq.mpr c30
    have c30b1 := bne_eq_false_iff_eq.mpr c30
    clear c30
    by_cases c31 : (((rd_T49 l0 x3_2).f2).length : Int) < 2
    ·rw [if_pos c31] at H
     have c31b0 := decide_eq_true c31
     have c31b1 : decide (((rd_T49 l0 x3_2).f2).length < 2) = true := decide_eq_true dq22
     clear c31
     obtain rfl := Option.some.inj H
     obtain ⟨⟨hcz32_0, hcz32_1, hcz32_2, hcz32_3⟩, hfz32_0, hfz32_1, hfz32_2, hfz32_3⟩ := blkC4 BK122.out
     go_wp2
     go_ret
     exact ⟨dq17, dq41⟩
    rw [if_neg c31] at H
    have c31b0 := decide_eq_false c31
    have c31b1 : decide (((rd_T49 l0 x3_2).f2).length < 2) = false := decide_eq_false dq22
    clear c31
    have H' := Aside0.mk H
    clear H
    obtain ⟨⟨hcz33_0, hcz33_1, hcz33_2, hcz33_3⟩, hfz33_0, hfz33_1, hfz33_2, hfz33_3⟩ := blkC4 BK122.out
    go_wp2
    go_meet
    case rel => exact ⟨_, H', ⟨dq43⟩, ⟨dq42⟩, ⟨dq41⟩⟩
   clear HC9
   try clear c1
   try clear p1
   try clear q1
   try clear hx1
   try clear c2
   try clear p2
   try clear c3
   try clear c3b0
   try clear c3b1
   try clear c4
   try clear c5
   try clear c5b0
   try clear c6
   try clear c6b0
   try clear c8
   try clear c12
   try clear c12b0
   try clear c12b1
   try clear p12
   try clear q12
   try clear hx12
   try clear c14
   try clear c15
   try clear c15b0
   try clear c15b1
   try clear c19
   try clear c19b0
   try clear c19b1
   try clear c20
   try clear c20b0
   try clear c20b1
   try clear c21
   try clear c21b0
   try clear c21b1
   try clear c25
   try clear c25b0
   try clear c25b1
   try clear c26
   try clear c26b0
   try clear c26b1
   try clear c29
   try clear c29b0
   try clear c29b1
   try clear c30
   try clear c30b0
   try clear c30b1
   try clear c31
   try clear c31b0
   try clear c31b1
   try clear c33
   try clear hcz11_0
   try clear hcz11_1
   try clear hcz11_2
   try clear hcz11_3
   try clear hcz16_0
   try clear hcz16_1
   try clear hcz16_2
   try clear hcz16_3
   try clear hcz17_0
   try clear hcz17_1
   try clear hcz17_2
   try clear hcz17_3
   try clear hcz18_0
   try clear hcz18_1
   try clear hcz18_2
   try clear hcz18_3
   try clear hcz22_0
   try clear hcz22_1
   try clear hcz22_2
   try clear hcz22_3
   try clear hcz23_0
   try clear hcz23_1
   try clear hcz23_2
   try clear hcz23_3
   try clear hcz24_0
   try clear hcz24_1
   try clear hcz24_2
   try clear hcz24_3
   try clear hcz27_0
   try clear hcz27_1
   try clear hcz27_2
   try clear hcz27_3
   try clear hcz28_0
   try clear hcz28_1
   try clear hcz28_2
   try clear hcz28_3
   try clear hcz32_0
   try clear hcz32_1
   try clear hcz32_2
   try clear hcz32_3
   try clear hcz33_0
   try clear hcz33_1
   try clear hcz33_2
   try clear hcz33_3
   try clear hcz34_0
   try clear hcz34_1
   try clear hcz34_2
   try clear hcz34_3
   try clear hfz11_0
   try clear hfz11_1
   try clear hfz11_2
   try clear hfz11_3
   try clear hfz16_0
   try clear hfz16_1
   try clear hfz16_2
   try clear hfz16_3
   try clear hfz17_0
   try clear hfz17_1
   try clear hfz17_2
   try clear hfz17_3
   try clear hfz18_0
   try clear hfz18_1
   try clear hfz18_2
   try clear hfz18_3
   try clear hfz22_0
   try clear hfz22_1
   try clear hfz22_2
   try clear hfz22_3
   try clear hfz23_0
   try clear hfz23_1
   try clear hfz23_2
   try clear hfz23_3
   try clear hfz24_0
   try clear hfz24_1
   try clear hfz24_2
   try clear hfz24_3
   try clear hfz27_0
   try clear hfz27_1
   try clear hfz27_2
   try clear hfz27_3
   try clear hfz28_0
   try clear hfz28_1
   try clear hfz28_2
   try clear hfz28_3
   try clear hfz32_0
   try clear hfz32_1
   try clear hfz32_2
   try clear hfz32_3
   try clear hfz33_0
   try clear hfz33_1
   try clear hfz33_2
   try clear hfz33_3
   try clear hfz34_0
   try clear hfz34_1
   try clear hfz34_2
   try clear hfz34_3
   try clear hx121_0
   try clear hx121_1
   try clear hx121_2
   try clear hx121_3
   try clear p121
   try clear p2
   try clear q121
   obtain ⟨kq, HA, HJ8, BK122, HB⟩ := hcut
   cases kq with
   | zero => exact absurd HA.out (by simp [spec_ParticleOk.j2])
   | succ kj8 =>
    have H := HA.out
    clear HA
    simp only [spec_ParticleOk.j2] at H
    have H' := Aside0.mk H
    clear H
    go_wp2
    go_loopg [5] kj8 (fun kq v5 w' => ∃ (x5_4 : Int), v5 = .int .i64 x5_4 ∧ Aside0 (spec_ParticleOk.l1 kq l0 x3_2 x5_4 ((rd_T49 l0 x3_2).f0) ((rd_T49 l0 x3_2).f1) ((rd_T49 l0 x3_2).f2) ((rd_T49 l0 x3_2).f3) = some r) ∧ Aside0 (kq ≤ kj8) ∧ Aside0 (w'.heap[gb122]? = some (.cells #[.int .i64 ((rd_T49 l0 x3_2).f0), .string ((rd_T49 l0 x3_2).f1), (.slice A121_2 ((rd_T49 l0 x3_2).f2).length c121_2), .int .i64 ((rd_T49 l0 x3_2).f3)] 49 (0, 0))) ∧ Aside0 (Below w.heap.size w w'))
    case atStart => exact ⟨(0), dq13, H', ⟨Nat.le_refl _⟩, ⟨by refine blk_up ?_; exact BK122.out⟩, ⟨dq41⟩⟩
    clear H'
    try clear c1
    try clear p1
    try clear q1
    try clear hx1
    try clear c2
    try clear p2
    try clear c3
    try clear c3b0
    try clear c3b1
    try clear c4
    try clear c5
    try clear c5b0
    try clear c6
    try clear c6b0
    try clear c8
    try clear c12
    try clear c12b0
    try clear c12b1
    try clear p12
    try clear q12
    try clear hx12
    try clear c14
    try clear c15
    try clear c15b0
    try clear c15b1
    try clear c19
    try clear c19b0
    try clear c19b1
    try clear c20
    try clear c20b0
    try clear c20b1
    try clear c21
    try clear c21b0
    try clear c21b1
    try clear c25
    try clear c25b0
    try clear c25b1
    try clear c26
    try clear c26b0
    try clear c26b1
    try clear c29
    try clear c29b0
    try clear c29b1
    try clear c30
    try clear c30b0
    try clear c30b1
    try clear c31
    try clear c31b0
    try clear c31b1
    try clear c33
    try clear hcz11_0
    try clear hcz11_1
    try clear hcz11_2
    try clear hcz11_3
    try clear hcz16_0
    try clear hcz16_1
    try clear hcz16_2
    try clear hcz16_3
    try clear hcz17_0
    try clear hcz17_1
    try clear hcz17_2
    try clear hcz17_3
    try clear hcz18_0
    try clear hcz18_1
    try clear hcz18_2
    try clear hcz18_3
    try clear hcz22_0
    try clear hcz22_1
    try clear hcz22_2
    try clear hcz22_3
    try clear hcz23_0
    try clear hcz23_1
    try clear hcz23_2
    try clear hcz23_3
    try clear hcz24_0
    try clear hcz24_1
    try clear hcz24_2
    try clear hcz24_3
    try clear hcz27_0
    try clear hcz27_1
    try clear hcz27_2
    try clear hcz27_3
    try clear hcz28_0
    try clear hcz28_1
    try clear hcz28_2
    try clear hcz28_3
    try clear hcz32_0
    try clear hcz32_1
    try clear hcz32_2
    try clear hcz32_3
    try clear hcz33_0
    try clear hcz33_1
    try clear hcz33_2
    try clear hcz33_3
    try clear hcz34_0
    try clear hcz34_1
    try clear hcz34_2
    try clear hcz34_3
    try clear hfz11_0
    try clear hfz11_1
    try clear hfz11_2
    try clear hfz11_3
    try clear hfz16_0
    try clear hfz16_1
    try clear hfz16_2
    try clear hfz16_3
    try clear hfz17_0
    try clear hfz17_1
    try clear hfz17_2
    try clear hfz17_3
    try clear hfz18_0
    try clear hfz18_1
    try clear hfz18_2
    try clear hfz18_3
    try clear hfz22_0
    try clear hfz22_1
    try clear hfz22_2
    try clear hfz22_3
    try clear hfz23_0
    try clear hfz23_1
    try clear hfz23_2
    try clear hfz23_3
    try clear hfz24_0
    try clear hfz24_1
    try clear hfz24_2
    try clear hfz24_3
    try clear hfz27_0
    try clear hfz27_1
    try clear hfz27_2
    try clear hfz27_3
    try clear hfz28_0
    try clear hfz28_1
    try clear hfz28_2
    try clear hfz28_3
    try clear hfz32_0
    try clear hfz32_1
    try clear hfz32_2
    try clear hfz32_3
    try clear hfz33_0
    try clear hfz33_1
    try clear hfz33_2
    try clear hfz33_3
    try clear hfz34_0
    try clear hfz34_1
    try clear hfz34_2
    try clear hfz34_3
    try clear hx121_0
    try clear hx121_1
    try clear hx121_2
    try clear hx121_3
    try clear p1
    try clear p12
    try clear p121
    try clear p2
    try clear q1
    try clear q12
    try clear q121
    obtain ⟨x5_4, rfl, HA, HK4, BK122, HB⟩ := hrel
    cases gk with
    | zero => exact absurd HA.out (by simp [spec_ParticleOk.l1])
    | succ k4 =>
     have H := HA.out
     clear HA
     simp only [spec_ParticleOk.l1] at H
     by_cases c35 : x5_4 < (((rd_T49 l0 x3_2).f2).length : Int)
     rotate_left
     ·rw [if_neg c35] at H
      have c35b0 := decide_eq_false c35
      clear c35
      have H' := Aside0.mk H
      clear H
      obtain ⟨⟨hcz41_0, hcz41_1, hcz41_2, hcz41_3⟩, hfz41_0, hfz41_1, hfz41_2, hfz41_3⟩ := blkC4 BK122.out
      go_wp2
      go_roundg k4
      case measure => have := HJ1.out; have := HK2.out; have := HJ8.out; have := HK4.out; omega
      case rel => exact ⟨(wrap64 (x3_2 + 1)), dq13, H', ⟨by have := HJ1.out; have := HK2.out; have := HJ8.out; have := HK4.out; omega⟩, ⟨dq41⟩⟩
     rw [if_pos c35] at H
     have c35b0 := decide_eq_true c35
     clear c35
     by_cases c36 : 0 ≤ x5_4
     rotate_left
     ·rw [if_neg c36] at H
      exact absurd H (by simp)
     rw [if_pos c36] at H
     have c36b0 := decide_eq_true c36
     clear c36
     replace H := Option.bind_eq_some_iff.mp H
     obtain ⟨t126, A370, H⟩ := H
     replace H : (if t126 = true then (spec_ParticleOk.l1 k4 l0 x3_2 (wrap64 (x5_4 + 1)) ((rd_T49 l0 x3_2).f0) ((rd_T49 l0 x3_2).f1) ((rd_T49 l0 x3_2).f2) ((rd_T49 l0 x3_2).f3)) else (some false)) = some r := H
     have A37 := Aside0.mk A370
     clear A370
     by_cases c38 : t126 = true
     rotate_left
     ·replace c38 := Bool.eq_false_iff.mpr c38
      subst c38
      have H1 : (some false) = some r := by rw [if_neg (show ¬ (false = true) by decide)] at H; exact H
      clear H
      have H := H1
      clear H1
      obtain rfl := Option.some.inj H
      obtain ⟨⟨hcz40_0, hcz40_1, hcz40_2, hcz40_3⟩, hfz40_0, hfz40_1, hfz40_2, hfz40_3⟩ := blkC4 BK122.out
      have p125 : 0 ≤ (x5_4 : Int) := of_decide_eq_true dq20
      have q125 : x5_4 < (((rd_T49 l0 x3_2).f2).length : Int) := of_decide_eq_true dq20
      obtain ⟨ad125, e125, hx125_0⟩ := Kd.at_int HR121_2.out x5_4 p125 q125
      cases e125
      replace hx125_0 := (HB.out.cell (World.block_lt_of_cell? w _ hx125_0)).trans hx125_0
      replace p125 := eq_true p125
      replace q125 := eq_true q125
      go_wp2_with (first | ((with_reducible refine gate_callee (f := 58) rfl ?_); refine goesL_ (some 84) rfl rfl Try.func58 dq19 rfl #[.int .i64 (rd ((rd_T49 l0 x3_2).f2) x5_4), .int .i64 0, .int .i64 (wrap64 (x3_2 - 1))] rfl dq18 ?_; (with_reducible refine (spec_l1In.calls (rd ((rd_T49 l0 x3_2).f2) x5_4) 0 (wrap64 (x3_2 - 1)) false _ A37.out).mono ?_); rintro e w' ⟨rfl, ⟨nd, rfl⟩⟩; refine ⟨_, rfl, ?_⟩))
      go_ret
      exact ⟨dq17, dq41⟩
     subst c38
     have H1 : (spec_ParticleOk.l1 k4 l0 x3_2 (wrap64 (x5_4 + 1)) ((rd_T49 l0 x3_2).f0) ((rd_T49 l0 x3_2).f1) ((rd_T49 l0 x3_2).f2) ((rd_T49 l0 x3_2).f3)) = some r := by rw [if_pos rfl] at H; exact H
     clear H
     have H := H1
     clear H1
     have H' := Aside0.mk H
     clear H
     obtain ⟨⟨hcz39_0, hcz39_1, hcz39_2, hcz39_3⟩, hfz39_0, hfz39_1, hfz39_2, hfz39_3⟩ := blkC4 BK122.out
     have p125 : 0 ≤ (x5_4 : Int) := of_decide_eq_true dq20
     have q125 : x5_4 < (((rd_T49 l0 x3_2).f2).length : Int) := of_decide_eq_true dq20
     obtain ⟨ad125, e125, hx125_0⟩ := Kd.at_int HR121_2.out x5_4 p125 q125
     cases e125
     replace hx125_0 := (HB.out.cell (World.block_lt_of_cell? w _ hx125_0)).trans hx125_0
     replace p125 := eq_true p125
     replace q125 := eq_true q125
     go_wp2_with (first | ((with_reducible refine gate_callee (f := 58) rfl ?_); refine goesL_ (some 84) rfl rfl Try.func58 dq19 rfl #[.int .i64 (rd ((rd_T49 l0 x3_2).f2) x5_4), .int .i64 0, .int .i64 (wrap64 (x3_2 - 1))] rfl dq18 ?_; (with_reducible refine (spec_l1In.calls (rd ((rd_T49 l0 x3_2).f2) x5_4) 0 (wrap64 (x3_2 - 1)) true _ A37.out).mono ?_); rintro e w' ⟨rfl, ⟨nd, rfl⟩⟩; refine ⟨_, rfl, ?_⟩))
     go_roundg k4
     case measure => have := HJ1.out; have := HK2.out; have := HJ8.out; have := HK4.out; omega
     case rel => exact ⟨(wrap64 (x5_4 + 1)), dq13, H', ⟨by have := HJ1.out; have := HK2.out; have := HJ8.out; have := HK4.out; omega⟩, ⟨by refine blk_up ?_; exact BK122.out⟩, ⟨dq41⟩⟩

/-! ### spec_l8Once: function 88 -/
mutual
def l8OnceG.j0 (E_ : Nat → List (S49) → Int → List ByteArray → List Bool → Option (List Bool)) : Nat → List (S49) → List ByteArray → List Bool → List Bool → Int → Bool → Int → ByteArray → List Int → Int → Option (List Bool)
  | 0, _, _, _, _, _, _, _, _, _, _ => none
  | k + 1, x0, x2, x3, x9, x24, x25, x207000, x207001, x207002, x207003 => if x25 = true then (l8OnceG.l0 E_ k x2 x3 x9 0 x207000 x207001 x207002 x207003) else (if x24 = 2 then ((some (([] : List Bool) : List Bool)).bind fun y211 => (if y211.length + x3.length < 140737488355328 then (l8OnceG.l1 E_ k x0 x2 (y211 ++ x3) 0 x207000 x207001 x207002 x207003) else (none))) else (if x24 = 3 then (l8OnceG.l2 E_ k x0 x2 x3 x9 0 x207000 x207001 x207002 x207003) else (some x9)))
def l8OnceG.l0 (E_ : Nat → List (S49) → Int → List ByteArray → List Bool → Option (List Bool)) : Nat → List ByteArray → List Bool → List Bool → Int → Int → ByteArray → List Int → Int → Option (List Bool)
  | 0, _, _, _, _, _, _, _, _ => none
  | k + 1, x2, x3, x9, x11, x207000, x207001, x207002, x207003 => if x11 < (x2.length : Int) then (if 0 ≤ x11 then (if x11 < (x3.length : Int) then (if rdOf false x3 x11 = true then (if x207000 = 4 then (if 0 ≤ (wrap64 (x11 + 1)) then (if (wrap64 (x11 + 1)) < (x9.length : Int) then (l8OnceG.l0 E_ k x2 x3 (x9.set ((wrap64 (x11 + 1)) : Int).toNat true) (wrap64 (x11 + 1)) x207000 x207001 x207002 x207003) else (none)) else (none)) else (if x207001.toList = (rdOf ByteArray.empty x2 x11).toList then (if 0 ≤ (wrap64 (x11 + 1)) then (if (wrap64 (x11 + 1)) < (x9.length : Int) then (l8OnceG.l0 E_ k x2 x3 (x9.set ((wrap64 (x11 + 1)) : Int).toNat true) (wrap64 (x11 + 1)) x207000 x207001 x207002 x207003) else (none)) else (none)) else (l8OnceG.l0 E_ k x2 x3 x9 (wrap64 (x11 + 1)) x207000 x207001 x207002 x207003))) else (l8OnceG.l0 E_ k x2 x3 x9 (wrap64 (x11 + 1)) x207000 x207001 x207002 x207003)) else (none)) else (none)) else (some x9)
def l8OnceG.l1 (E_ : Nat → List (S49) → Int → List ByteArray → List Bool → Option (List Bool)) : Nat → List (S49) → List ByteArray → List Bool → Int → Int → ByteArray → List Int → Int → Option (List Bool)
  | 0, _, _, _, _, _, _, _, _ => none
  | k + 1, x0, x2, x9, x12, x207000, x207001, x207002, x207003 => if x12 < (x207002.length : Int) then (if 0 ≤ x12 then ((E_ k x0 (rd x207002 x12) x2 x9).bind fun t218 => (l8OnceG.l1 E_ k x0 x2 t218 (wrap64 (x12 + 1)) x207000 x207001 x207002 x207003)) else (none)) else (some x9)
def l8OnceG.l2 (E_ : Nat → List (S49) → Int → List ByteArray → List Bool → Option (List Bool)) : Nat → List (S49) → List ByteArray → List Bool → List Bool → Int → Int → ByteArray → List Int → Int → Option (List Bool)
  | 0, _, _, _, _, _, _, _, _, _ => none
  | k + 1, x0, x2, x3, x9, x13, x207000, x207001, x207002, x207003 => if x13 < (x207002.length : Int) then (if 0 ≤ x13 then ((E_ k x0 (rd x207002 x13) x2 x3).bind fun t222 => (l8OnceG.l3 E_ k x0 x2 x3 x9 x13 t222 0 x207000 x207001 x207002 x207003)) else (none)) else (some x9)
def l8OnceG.l3 (E_ : Nat → List (S49) → Int → List ByteArray → List Bool → Option (List Bool)) : Nat → List (S49) → List ByteArray → List Bool → List Bool → Int → List Bool → Int → Int → ByteArray → List Int → Int → Option (List Bool)
  | 0, _, _, _, _, _, _, _, _, _, _, _ => none
  | k + 1, x0, x2, x3, x9, x13, x14, x15, x207000, x207001, x207002, x207003 => if x15 < (x9.length : Int) then (if 0 ≤ x15 then (if rdOf false x9 x15 = true then (l8OnceG.l3 E_ k x0 x2 x3 (x9.set (x15 : Int).toNat true) x13 x14 (wrap64 (x15 + 1)) x207000 x207001 x207002 x207003) else (if x15 < (x14.length : Int) then (l8OnceG.l3 E_ k x0 x2 x3 (x9.set (x15 : Int).toNat (rdOf false x14 x15)) x13 x14 (wrap64 (x15 + 1)) x207000 x207001 x207002 x207003) else (none))) else (none)) else (l8OnceG.l2 E_ k x0 x2 x3 x9 (wrap64 (x13 + 1)) x207000 x207001 x207002 x207003)
end
def l8OnceG.f (E_ : Nat → List (S49) → Int → List ByteArray → List Bool → Option (List Bool)) (k : Nat) (l0 : List (S49)) (a1 : Int) (l2 : List ByteArray) (l3 : List Bool) : Option (List Bool) := if 0 ≤ (l3.length : Int) then (if ((l3.length : Int) : Int).toNat ≤ 281474976710656 then ((some (List.replicate ((l3.length : Int) : Int).toNat false : List Bool)).bind fun y202 => (if 0 ≤ a1 then (if a1 < (l0.length : Int) then (if ((rd_T49 l0 a1).f0) = 1 then (l8OnceG.j0 E_ k l0 l2 l3 y202 ((rd_T49 l0 a1).f0) (((rd_T49 l0 a1).f0) == 1) ((rd_T49 l0 a1).f0) ((rd_T49 l0 a1).f1) ((rd_T49 l0 a1).f2) ((rd_T49 l0 a1).f3)) else (l8OnceG.j0 E_ k l0 l2 l3 y202 ((rd_T49 l0 a1).f0) (((rd_T49 l0 a1).f0) == 4) ((rd_T49 l0 a1).f0) ((rd_T49 l0 a1).f1) ((rd_T49 l0 a1).f2) ((rd_T49 l0 a1).f3))) else (none)) else (none))) else (none)) else (none)
set_option maxHeartbeats 8000000 in
set_option maxRecDepth 100000 in
theorem l8OnceG.calls (E_ : Nat → List (S49) → Int → List ByteArray → List Bool → Option (List Bool)) (hEc_ : ∀ (k : Nat) (A0 : Option Addr) (c0 : Nat) (l0 : List (S49)) (a1 : Int) (A2 : Option Addr) (c2 : Nat) (l2 : List ByteArray) (A3 : Option Addr) (c3 : Nat) (l3 : List Bool) (r : List Bool) (w : World) (_ : Kd.C k49 w A0 l0.length l0) (_ : l0.length ≤ c0) (_ : Kd.C Kd.string w A2 l2.length l2) (_ : l2.length ≤ c2) (_ : Kd.C Kd.bool w A3 l3.length l3) (_ : l3.length ≤ c3) (_ : E_ k l0 a1 l2 l3 = some r), Calls Try.prog 72 #[.slice A0 l0.length c0, .int .i64 a1, .slice A2 l2.length c2, .slice A3 l3.length c3] w fun e w' => ∃ v0_ : Value, e = .returned (v0_) ∧ Kd.R Kd.bool 4 w' w.heap.size (fun _ => True) v0_ r ∧ Below w.heap.size w w') (k : Nat) (A0 : Option Addr) (c0 : Nat) (l0 : List (S49)) (a1 : Int) (A2 : Option Addr) (c2 : Nat) (l2 : List ByteArray) (A3 : Option Addr) (c3 : Nat) (l3 : List Bool) (r : List Bool) (w : World) (hr0 : Kd.C k49 w A0 l0.length l0) (hc0 : l0.length ≤ c0) (hr2 : Kd.C Kd.string w A2 l2.length l2) (hc2 : l2.length ≤ c2) (hr3 : Kd.C Kd.bool w A3 l3.length l3) (hc3 : l3.length ≤ c3) (h : l8OnceG.f E_ k l0 a1 l2 l3 = some r) :
    Calls Try.prog 88 #[.slice A0 l0.length c0, .int .i64 a1, .slice A2 l2.length c2, .slice A3 l3.length c3] w fun e w' => ∃ v0_ : Value, e = .returned (v0_) ∧ Kd.R Kd.bool 4 w' w.heap.size (fun _ => True) v0_ r ∧ Below w.heap.size w w' := by
  have HE_ := Aside0.mk hEc_
  clear hEc_
  have hu49 := Try.underlying49
  have HR0 := Aside0.mk hr0
  have HC0 := Aside0.mk hc0
  clear hr0 hc0
  have HR2 := Aside0.mk hr2
  have HC2 := Aside0.mk hc2
  clear hr2 hc2
  have HR3 := Aside0.mk hr3
  have HC3 := Aside0.mk hc3
  clear hr3 hc3
  have HB := Aside0.mk (Below.refl w.heap.size w)
  have H : (if 0 ≤ (l3.length : Int) then (if ((l3.length : Int) : Int).toNat ≤ 281474976710656 then ((some (List.replicate ((l3.length : Int) : Int).toNat false : List Bool)).bind fun y202 => (if 0 ≤ a1 then (if a1 < (l0.length : Int) then (if ((rd_T49 l0 a1).f0) = 1 then (l8OnceG.j0 E_ k l0 l2 l3 y202 ((rd_T49 l0 a1).f0) (((rd_T49 l0 a1).f0) == 1) ((rd_T49 l0 a1).f0) ((rd_T49 l0 a1).f1) ((rd_T49 l0 a1).f2) ((rd_T49 l0 a1).f3)) else (l8OnceG.j0 E_ k l0 l2 l3 y202 ((rd_T49 l0 a1).f0) (((rd_T49 l0 a1).f0) == 4) ((rd_T49 l0 a1).f0) ((rd_T49 l0 a1).f1) ((rd_T49 l0 a1).f2) ((rd_T49 l0 a1).f3))) else (none)) else (none))) else (none)) else (none)) = some r := h
  clear h
  by_cases c5 : 0 ≤ (l3.length : Int)
  · rw [if_pos c5] at H
    have c5b0 := eq_true c5
    have c5b1 : decide (0 ≤ (l3.length : Int)) = true := decide_eq_true c5
    clear c5
    by_cases c6 : ((l3.length : Int) : Int).toNat ≤ 281474976710656
    · rw [if_pos c6] at H
      have c6b0 := eq_true c6
      have c6b1 : decide (((l3.length : Int) : Int).toNat ≤ 281474976710656) = true := decide_eq_true c6
      clear c6
      obtain ⟨y202, hy202⟩ : ∃ y_ : List Bool, y_ = (List.replicate ((l3.length : Int) : Int).toNat false) := ⟨_, rfl⟩
      replace H : (if 0 ≤ a1 then (if a1 < (l0.length : Int) then (if ((rd_T49 l0 a1).f0) = 1 then (l8OnceG.j0 E_ k l0 l2 l3 y202 ((rd_T49 l0 a1).f0) (((rd_T49 l0 a1).f0) == 1) ((rd_T49 l0 a1).f0) ((rd_T49 l0 a1).f1) ((rd_T49 l0 a1).f2) ((rd_T49 l0 a1).f3)) else (l8OnceG.j0 E_ k l0 l2 l3 y202 ((rd_T49 l0 a1).f0) (((rd_T49 l0 a1).f0) == 4) ((rd_T49 l0 a1).f0) ((rd_T49 l0 a1).f1) ((rd_T49 l0 a1).f2) ((rd_T49 l0 a1).f3))) else (none)) else (none)) = some r := by first | (rw [hy202]; with_reducible exact H) | (have H2_ := (Option.bind_some _ _).symm.trans H; rw [hy202]; with_reducible exact H2_) | (have H2_ := (Option.bind_some _ _).symm.trans H; with_reducible exact H2_) | with_reducible exact H | (rw [hy202]; exact H) | exact H
      have Ny202 := Aside0.mk hy202
      clear hy202
      by_cases c7 : 0 ≤ a1
      · rw [if_pos c7] at H
        have c7b0 : decide (0 ≤ a1) = true := decide_eq_true c7
        clear c7
        by_cases c8 : a1 < (l0.length : Int)
        · rw [if_pos c8] at H
          have c8b0 : decide (a1 < (l0.length : Int)) = true := decide_eq_true c8
          clear c8
          have HC9 := Aside0.mk H
          clear H
          go_enter Try.func88, Try.ntmps88
          go_upto_if 25 with (first | ((with_reducible refine gate_dst (N := 18) rfl ?_); refine Kd.R_make Kd.bool _ 4 rfl (N := 18) rfl 56 _ _ rfl (l3.length : Int) rfl rfl Try.underlying56 (.bool false) 1 info4 rfl (by decide) (by omega) false (ok := fun _ => True) (okp := fun _ => True) rfl (fun _ hk => hk) trivial (of_decide_eq_true (by first | (with_reducible assumption) | assumption)) (Nat.le_trans (Nat.mul_le_mul_right _ (of_decide_eq_true (by first | (with_reducible assumption) | assumption) : (l3.length : Int).toNat ≤ 281474976710656)) (by omega)) (Below.refl _ _) (Nat.le_refl _) ?_; intro v203 w10 ho11 hb hg_ hnew_; clear hg_ hnew_; (first | rw [← Ny202.out] at ho11 | (simp only [Int.reduceToNat] at ho11; rw [← Ny202.out] at ho11)); have n0_ := Aside0.mk (Kd.R_lower ho11 (below_size (by repeat (first | (with_reducible first | exact HB.out | apply below_alloc | apply pw_below_drewN | apply below_drew1) | exact HB.out)))); have n1_ := Aside0.mk (below_step (by repeat (first | (with_reducible first | exact HB.out | apply below_alloc | apply pw_below_drewN | apply below_drew1) | exact HB.out)) hb); clear HB; have HO204 := n0_; have HB := n1_; clear n0_ n1_; clear hb ho11; have p205 : 0 ≤ (a1 : Int) := of_decide_eq_true (by first | (with_reducible assumption) | assumption); have q205 : a1 < (l0.length : Int) := of_decide_eq_true (by first | (with_reducible assumption) | assumption); obtain ⟨ad205, A205_2, c205_2, e205, hx205_0, hx205_1, hx205_2, hx205_3, hl205_2, hi205_2⟩ := at_T49 HR0.out a1 p205 q205; cases e205; replace hx205_0 := (HB.out.cell (World.block_lt_of_cell? w _ hx205_0)).trans hx205_0; replace hx205_1 := (HB.out.cell (World.block_lt_of_cell? w _ hx205_1)).trans hx205_1; replace hx205_2 := (HB.out.cell (World.block_lt_of_cell? w _ hx205_2)).trans hx205_2; replace hx205_3 := (HB.out.cell (World.block_lt_of_cell? w _ hx205_3)).trans hx205_3; have HR205_2 := Aside0.mk hi205_2; have HC205_2 := Aside0.mk hl205_2; clear hi205_2 hl205_2; replace p205 := eq_true p205; replace q205 := eq_true q205) | ((with_reducible refine gate_dst (N := 10) rfl ?_); refine box_event ?hg (N := 10) ?hd (cs := #[.int .i64 0, .string (⟨#[]⟩ : ByteArray), .slice none 0 0, .int .i64 0]) (t := 49) ?hr ?_; (case hd => rfl); (case hg => rfl); (case hr => first | (go_simp; done) | (go_simp; rfl)); intro gb206 hg w12 hbox hb; have n0_ := Aside0.mk (Kd.R_below (by (with_reducible repeat (first | apply Kd.R_alloc | apply Kd.R_drewN | apply Kd.R_drew)); exact HO204.out) hb); have n1_ := Aside0.mk (below_step (by repeat (first | (with_reducible first | exact HB.out | apply below_alloc | apply pw_below_drewN | apply below_drew1) | exact HB.out)) hb); have n2_ := Aside0.mk (hbox); have n3_ := Aside0.mk ((by rw [hg]; exact (below_size (by repeat (first | (with_reducible first | exact HB.out | apply below_alloc | apply pw_below_drewN | apply below_drew1) | exact HB.out))) : w.heap.size ≤ gb206)); have n4_ := Aside0.mk ((by rw [hg]; exact (below_size (by repeat (first | (with_reducible first | exact HB.out | apply below_alloc | apply pw_below_drewN | apply below_drew1) | exact HB.out))) : w.heap.size ≤ gb206)); clear HO204; clear HB; have HO204 := n0_; have HB := n1_; have BK206 := n2_; have GW206 := n3_; have GE206 := n4_; clear n0_ n1_ n2_ n3_ n4_; clear hb hbox hg; have hcz13_0 : w12.cell? ⟨gb206, 0, none⟩ = some (.int .i64 0) := (blk_cell BK206.out 0).trans rfl; have hcz13_1 : w12.cell? ⟨gb206, 1, none⟩ = some (.string (⟨#[]⟩ : ByteArray)) := (blk_cell BK206.out 1).trans rfl; have hcz13_2 : w12.cell? ⟨gb206, 2, none⟩ = some (.slice none 0 0) := (blk_cell BK206.out 2).trans rfl; have hcz13_3 : w12.cell? ⟨gb206, 3, none⟩ = some (.int .i64 0) := (blk_cell BK206.out 3).trans rfl; have hfz13_0 := blk_frozen BK206.out 0; have hfz13_1 := blk_frozen BK206.out 1; have hfz13_2 := blk_frozen BK206.out 2; have hfz13_3 := blk_frozen BK206.out 3))
          (try simp only [Act.put, List.setIfInBounds_toArray, List.set_cons_zero, List.set_cons_succ])
          go_cut [25] (fun v25 wc => ∃ (kq : Nat) (x25_8 : Bool), v25 = .bool x25_8 ∧ Aside0 (l8OnceG.j0 E_ kq l0 l2 l3 y202 ((rd_T49 l0 a1).f0) x25_8 ((rd_T49 l0 a1).f0) ((rd_T49 l0 a1).f1) ((rd_T49 l0 a1).f2) ((rd_T49 l0 a1).f3) = some r) ∧ Aside0 (kq ≤ k) ∧ Aside0 (Kd.R Kd.bool 4 wc w.heap.size (fun _ => True) v203 y202) ∧ Aside0 (wc.heap[gb206]? = some (.cells #[.int .i64 ((rd_T49 l0 a1).f0), .string ((rd_T49 l0 a1).f1), (.slice A205_2 ((rd_T49 l0 a1).f2).length c205_2), .int .i64 ((rd_T49 l0 a1).f3)] 49 (0, 0))) ∧ Aside0 (Below w.heap.size w wc))
          case first =>
            have H := HC9.out
            clear HC9
            by_cases c14 : ((rd_T49 l0 a1).f0) = 1
            · rw [if_pos c14] at H
              have c14b0 : (((rd_T49 l0 a1).f0) == 1) = true := beq_iff_eq.mpr c14
              have c14b1 : (((rd_T49 l0 a1).f0) != 1) = false := bne_eq_false_iff_eq.mpr c14
              clear c14
              (first | rw [c14b0] | (simp only [i64_w, i32_w]; rw [c14b0]) | skip)
              have H' := Aside0.mk H
              clear H
              go_wp2
              go_meet
              case rel => exact ⟨_, ((((rd_T49 l0 a1).f0) == 1)), (by first | rfl | (simp; done) | (simp [*]; done)), H', ⟨by first | omega | exact Nat.le_refl _⟩, ⟨by (with_reducible repeat (first | apply Kd.R_alloc | apply Kd.R_drewN | apply Kd.R_drew)); exact Kd.R_mono (Kd.R_far (p := ⟨gb206, 3, none⟩) (Kd.R_far (p := ⟨gb206, 2, none⟩) (Kd.R_far (p := ⟨gb206, 1, none⟩) (Kd.R_far (p := ⟨gb206, 0, none⟩) (Kd.R_types HO204.out BK206.out (by decide)) (fun _ hk => hk.2) (.int .i64 ((rd_T49 l0 a1).f0))) (fun _ hk => hk.2) (.string ((rd_T49 l0 a1).f1))) (fun _ hk => hk.2) (.slice A205_2 ((rd_T49 l0 a1).f2).length c205_2)) (fun _ hk => hk.2) (.int .i64 ((rd_T49 l0 a1).f3))) (fun _ hk => trivial)⟩, ⟨by refine blk_up ?_; refine blk_put (cs := #[.int .i64 ((rd_T49 l0 a1).f0), .string ((rd_T49 l0 a1).f1), .slice A205_2 ((rd_T49 l0 a1).f2).length c205_2, .int .i64 0]) ?_ 3 _ rfl; refine blk_up ?_; refine blk_put (cs := #[.int .i64 ((rd_T49 l0 a1).f0), .string ((rd_T49 l0 a1).f1), .slice none 0 0, .int .i64 0]) ?_ 2 _ rfl; refine blk_up ?_; refine blk_put (cs := #[.int .i64 ((rd_T49 l0 a1).f0), .string (⟨#[]⟩ : ByteArray), .slice none 0 0, .int .i64 0]) ?_ 1 _ rfl; refine blk_up ?_; refine blk_put (cs := #[.int .i64 0, .string (⟨#[]⟩ : ByteArray), .slice none 0 0, .int .i64 0]) ?_ 0 _ rfl; refine blk_up ?_; exact BK206.out⟩, ⟨by repeat (first | (with_reducible first | exact HB.out | apply below_alloc | apply pw_below_drewN | apply below_drew1 | refine below_set ?_ GE206.out) | exact HB.out)⟩⟩
            · rw [if_neg c14] at H
              have c14b0 : (((rd_T49 l0 a1).f0) == 1) = false := beq_eq_false_iff_ne.mpr c14
              have c14b1 : (((rd_T49 l0 a1).f0) != 1) = true := bne_iff_ne.mpr c14
              (first | rw [c14b0] | (simp only [i64_w, i32_w]; rw [c14b0]) | skip)
              have H' := Aside0.mk H
              clear H
              go_wp2
              go_meet
              case rel => exact ⟨_, ((((rd_T49 l0 a1).f0) == 4)), (by first | rfl | (simp; done) | (simp [*]; done)), H', ⟨by first | omega | exact Nat.le_refl _⟩, ⟨by (with_reducible repeat (first | apply Kd.R_alloc | apply Kd.R_drewN | apply Kd.R_drew)); exact Kd.R_mono (Kd.R_far (p := ⟨gb206, 3, none⟩) (Kd.R_far (p := ⟨gb206, 2, none⟩) (Kd.R_far (p := ⟨gb206, 1, none⟩) (Kd.R_far (p := ⟨gb206, 0, none⟩) (Kd.R_types HO204.out BK206.out (by decide)) (fun _ hk => hk.2) (.int .i64 ((rd_T49 l0 a1).f0))) (fun _ hk => hk.2) (.string ((rd_T49 l0 a1).f1))) (fun _ hk => hk.2) (.slice A205_2 ((rd_T49 l0 a1).f2).length c205_2)) (fun _ hk => hk.2) (.int .i64 ((rd_T49 l0 a1).f3))) (fun _ hk => trivial)⟩, ⟨by refine blk_up ?_; refine blk_put (cs := #[.int .i64 ((rd_T49 l0 a1).f0), .string ((rd_T49 l0 a1).f1), .slice A205_2 ((rd_T49 l0 a1).f2).length c205_2, .int .i64 0]) ?_ 3 _ rfl; refine blk_up ?_; refine blk_put (cs := #[.int .i64 ((rd_T49 l0 a1).f0), .string ((rd_T49 l0 a1).f1), .slice none 0 0, .int .i64 0]) ?_ 2 _ rfl; refine blk_up ?_; refine blk_put (cs := #[.int .i64 ((rd_T49 l0 a1).f0), .string (⟨#[]⟩ : ByteArray), .slice none 0 0, .int .i64 0]) ?_ 1 _ rfl; refine blk_up ?_; refine blk_put (cs := #[.int .i64 0, .string (⟨#[]⟩ : ByteArray), .slice none 0 0, .int .i64 0]) ?_ 0 _ rfl; refine blk_up ?_; exact BK206.out⟩, ⟨by repeat (first | (with_reducible first | exact HB.out | apply below_alloc | apply pw_below_drewN | apply below_drew1 | refine below_set ?_ GE206.out) | exact HB.out)⟩⟩
          case rest =>
            clear HC9
            try clear c5b0
            try clear c5b1
            try clear c6b0
            try clear c6b1
            try clear c7b0
            try clear c8b0
            try clear hcz13_0
            try clear hcz13_1
            try clear hcz13_2
            try clear hcz13_3
            try clear hfz13_0
            try clear hfz13_1
            try clear hfz13_2
            try clear hfz13_3
            try clear hx205_0
            try clear hx205_1
            try clear hx205_2
            try clear hx205_3
            try clear p205
            try clear q205
            obtain ⟨kq, x25_8, rfl, HA, HJ8, HO_9, BK206, HB⟩ := hcut
            cases kq with
            | zero => exact absurd HA.out (by simp [l8OnceG.j0])
            | succ kj8 =>
              have H := HA.out
              clear HA
              simp only [l8OnceG.j0] at H
              by_cases c15 : x25_8 = true
              · subst c15
                have H1 : (l8OnceG.l0 E_ kj8 l2 l3 y202 0 ((rd_T49 l0 a1).f0) ((rd_T49 l0 a1).f1) ((rd_T49 l0 a1).f2) ((rd_T49 l0 a1).f3)) = some r := by rw [if_pos rfl] at H; exact H
                clear H
                have H := H1
                clear H1
                have H' := Aside0.mk H
                clear H
                go_wp2
                go_loopg [11] kj8 (fun kq v11 w' => ∃ (x9_2 : List Bool) (x11_2 : Int), v11 = .int .i64 x11_2 ∧ Aside0 (l8OnceG.l0 E_ kq l2 l3 x9_2 x11_2 ((rd_T49 l0 a1).f0) ((rd_T49 l0 a1).f1) ((rd_T49 l0 a1).f2) ((rd_T49 l0 a1).f3) = some r) ∧ Aside0 (kq ≤ kj8) ∧ Aside0 (Kd.R Kd.bool 4 w' w.heap.size (fun _ => True) v203 x9_2) ∧ Aside0 (w'.heap[gb206]? = some (.cells #[.int .i64 ((rd_T49 l0 a1).f0), .string ((rd_T49 l0 a1).f1), (.slice A205_2 ((rd_T49 l0 a1).f2).length c205_2), .int .i64 ((rd_T49 l0 a1).f3)] 49 (0, 0))) ∧ Aside0 (Below w.heap.size w w'))
                case atStart => exact ⟨(y202), (0), (by first | rfl | (simp; done) | (simp [*]; done)), H', ⟨Nat.le_refl _⟩, ⟨by (with_reducible repeat (first | apply Kd.R_alloc | apply Kd.R_drewN | apply Kd.R_drew)); exact HO_9.out⟩, ⟨by refine blk_up ?_; exact BK206.out⟩, ⟨by repeat (first | (with_reducible first | exact HB.out | apply below_alloc | apply pw_below_drewN | apply below_drew1 | refine below_set ?_ GE206.out) | exact HB.out)⟩⟩
                case round =>
                  clear H'
                  obtain ⟨x9_2, x11_2, rfl, HA, HK2, HO_9, BK206, HB⟩ := hrel
                  cases gk with
                  | zero => exact absurd HA.out (by simp [l8OnceG.l0])
                  | succ k2 =>
                    have H := HA.out
                    clear HA
                    simp only [l8OnceG.l0] at H
                    by_cases c16 : x11_2 < (l2.length : Int)
                    · rw [if_pos c16] at H
                      have c16b0 : decide (x11_2 < (l2.length : Int)) = true := decide_eq_true c16
                      clear c16
                      by_cases c17 : 0 ≤ x11_2
                      · rw [if_pos c17] at H
                        have c17b0 : decide (0 ≤ x11_2) = true := decide_eq_true c17
                        clear c17
                        by_cases c18 : x11_2 < (l3.length : Int)
                        · rw [if_pos c18] at H
                          have c18b0 : decide (x11_2 < (l3.length : Int)) = true := decide_eq_true c18
                          clear c18
                          obtain ⟨bq19, hbq19⟩ : ∃ b_ : Bool, b_ = (rdOf false l3 x11_2) := ⟨_, rfl⟩
                          replace H : (if bq19 = true then (if ((rd_T49 l0 a1).f0) = 4 then (if 0 ≤ (wrap64 (x11_2 + 1)) then (if (wrap64 (x11_2 + 1)) < (x9_2.length : Int) then (l8OnceG.l0 E_ k2 l2 l3 (x9_2.set ((wrap64 (x11_2 + 1)) : Int).toNat true) (wrap64 (x11_2 + 1)) ((rd_T49 l0 a1).f0) ((rd_T49 l0 a1).f1) ((rd_T49 l0 a1).f2) ((rd_T49 l0 a1).f3)) else (none)) else (none)) else (if ((rd_T49 l0 a1).f1).toList = (rdOf ByteArray.empty l2 x11_2).toList then (if 0 ≤ (wrap64 (x11_2 + 1)) then (if (wrap64 (x11_2 + 1)) < (x9_2.length : Int) then (l8OnceG.l0 E_ k2 l2 l3 (x9_2.set ((wrap64 (x11_2 + 1)) : Int).toNat true) (wrap64 (x11_2 + 1)) ((rd_T49 l0 a1).f0) ((rd_T49 l0 a1).f1) ((rd_T49 l0 a1).f2) ((rd_T49 l0 a1).f3)) else (none)) else (none)) else (l8OnceG.l0 E_ k2 l2 l3 x9_2 (wrap64 (x11_2 + 1)) ((rd_T49 l0 a1).f0) ((rd_T49 l0 a1).f1) ((rd_T49 l0 a1).f2) ((rd_T49 l0 a1).f3)))) else (l8OnceG.l0 E_ k2 l2 l3 x9_2 (wrap64 (x11_2 + 1)) ((rd_T49 l0 a1).f0) ((rd_T49 l0 a1).f1) ((rd_T49 l0 a1).f2) ((rd_T49 l0 a1).f3))) = some r := by rw [← hbq19] at H; exact H
                          have Nbq19 := Aside0.mk hbq19
                          clear hbq19
                          by_cases c20 : bq19 = true
                          · subst c20
                            have H1 : (if ((rd_T49 l0 a1).f0) = 4 then (if 0 ≤ (wrap64 (x11_2 + 1)) then (if (wrap64 (x11_2 + 1)) < (x9_2.length : Int) then (l8OnceG.l0 E_ k2 l2 l3 (x9_2.set ((wrap64 (x11_2 + 1)) : Int).toNat true) (wrap64 (x11_2 + 1)) ((rd_T49 l0 a1).f0) ((rd_T49 l0 a1).f1) ((rd_T49 l0 a1).f2) ((rd_T49 l0 a1).f3)) else (none)) else (none)) else (if ((rd_T49 l0 a1).f1).toList = (rdOf ByteArray.empty l2 x11_2).toList then (if 0 ≤ (wrap64 (x11_2 + 1)) then (if (wrap64 (x11_2 + 1)) < (x9_2.length : Int) then (l8OnceG.l0 E_ k2 l2 l3 (x9_2.set ((wrap64 (x11_2 + 1)) : Int).toNat true) (wrap64 (x11_2 + 1)) ((rd_T49 l0 a1).f0) ((rd_T49 l0 a1).f1) ((rd_T49 l0 a1).f2) ((rd_T49 l0 a1).f3)) else (none)) else (none)) else (l8OnceG.l0 E_ k2 l2 l3 x9_2 (wrap64 (x11_2 + 1)) ((rd_T49 l0 a1).f0) ((rd_T49 l0 a1).f1) ((rd_T49 l0 a1).f2) ((rd_T49 l0 a1).f3)))) = some r := by rw [if_pos rfl] at H; exact H
                            clear H
                            have H := H1
                            clear H1
                            by_cases c21 : ((rd_T49 l0 a1).f0) = 4
                            · rw [if_pos c21] at H
                              have c21b0 : (((rd_T49 l0 a1).f0) == 4) = true := beq_iff_eq.mpr c21
                              have c21b1 : (((rd_T49 l0 a1).f0) != 4) = false := bne_eq_false_iff_eq.mpr c21
                              clear c21
                              obtain ⟨ji22, hji22⟩ : ∃ j_ : Int, (wrap64 (x11_2 + 1)) = j_ := ⟨_, rfl⟩
                              replace H : (if 0 ≤ (ji22) then (if (ji22) < (x9_2.length : Int) then (l8OnceG.l0 E_ k2 l2 l3 (x9_2.set ((ji22) : Int).toNat true) ji22 ((rd_T49 l0 a1).f0) ((rd_T49 l0 a1).f1) ((rd_T49 l0 a1).f2) ((rd_T49 l0 a1).f3)) else (none)) else (none)) = some r := by first | (rw [hji22] at H; exact H) | (simp only [hji22] at H ⊢; exact H)
                              have hji22w : (IntKind.i64.wrap (x11_2 + 1)) = ji22 := (i64_w _).trans hji22
                              by_cases c23 : 0 ≤ (ji22)
                              · rw [if_pos c23] at H
                                have c23b0 : decide (0 ≤ (ji22)) = true := decide_eq_true c23
                                clear c23
                                by_cases c24 : (ji22) < (x9_2.length : Int)
                                · rw [if_pos c24] at H
                                  have c24b0 : decide ((ji22) < (x9_2.length : Int)) = true := decide_eq_true c24
                                  clear c24
                                  obtain ⟨y208, hy208⟩ : ∃ y_ : List Bool, y_ = (x9_2.set ((ji22) : Int).toNat true) := ⟨_, rfl⟩
                                  replace H : (l8OnceG.l0 E_ k2 l2 l3 y208 ji22 ((rd_T49 l0 a1).f0) ((rd_T49 l0 a1).f1) ((rd_T49 l0 a1).f2) ((rd_T49 l0 a1).f3)) = some r := by first | (rw [hy208]; with_reducible exact H) | (have H2_ := (Option.bind_some _ _).symm.trans H; rw [hy208]; with_reducible exact H2_) | (have H2_ := (Option.bind_some _ _).symm.trans H; with_reducible exact H2_) | with_reducible exact H | (rw [hy208]; exact H) | exact H
                                  have Ny208 := Aside0.mk hy208
                                  clear hy208
                                  have H' := Aside0.mk H
                                  clear H
                                  have p207 : 0 ≤ (x11_2 : Int) := of_decide_eq_true (by first | (with_reducible assumption) | assumption)
                                  have q207 : x11_2 < (l3.length : Int) := of_decide_eq_true (by first | (with_reducible assumption) | assumption)
                                  obtain ⟨ad207, e207, hx207_0⟩ := Kd.at_bool HR3.out x11_2 p207 q207
                                  (try rw [← Nbq19.out] at hx207_0)
                                  cases e207
                                  replace hx207_0 := (HB.out.cell (World.block_lt_of_cell? w _ hx207_0)).trans hx207_0
                                  replace p207 := eq_true p207
                                  replace q207 := eq_true q207
                                  have hcz26_0 : wr.cell? ⟨gb206, 0, none⟩ = some (.int .i64 ((rd_T49 l0 a1).f0)) := (blk_cell BK206.out 0).trans rfl
                                  have hcz26_1 : wr.cell? ⟨gb206, 1, none⟩ = some (.string ((rd_T49 l0 a1).f1)) := (blk_cell BK206.out 1).trans rfl
                                  have hcz26_2 : wr.cell? ⟨gb206, 2, none⟩ = some (.slice A205_2 ((rd_T49 l0 a1).f2).length c205_2) := (blk_cell BK206.out 2).trans rfl
                                  have hcz26_3 : wr.cell? ⟨gb206, 3, none⟩ = some (.int .i64 ((rd_T49 l0 a1).f3)) := (blk_cell BK206.out 3).trans rfl
                                  have hfz26_0 := blk_frozen BK206.out 0
                                  have hfz26_1 := blk_frozen BK206.out 1
                                  have hfz26_2 := blk_frozen BK206.out 2
                                  have hfz26_3 := blk_frozen BK206.out 3
                                  have p25 : 0 ≤ ((ji22) : Int) := of_decide_eq_true (by first | (with_reducible assumption) | assumption)
                                  have q25 : ((ji22) : Int) < ((x9_2.length : Int) : Int) := of_decide_eq_true (by first | (with_reducible assumption) | assumption)
                                  obtain ⟨go25, co25, eo25, gb25, gl25, cl25, HG25⟩ := Kd.R_form HO_9.out (by omega)
                                  (first | cases eo25 | (injection eo25 with ea_ en_ ec_; (first | subst ea_ | (injection ea_ with ea_; subst ea_)); subst ec_; clear en_))
                                  have GB25 := Aside0.mk gb25
                                  have GG25 := Aside0.mk HG25
                                  clear gb25 gl25 HG25
                                  obtain ⟨hx25_0, hf25_0⟩ := Kd.R_celln false HO_9.out ((ji22) : Int) p25 q25
                                  replace p25 := eq_true p25
                                  replace q25 := eq_true q25
                                  have HP27 := Kd.R_putg HO_9.out ((ji22) : Int) true
                                  go_wp2_with (fail)
                                  repeat (go_quiet (fail); try go_wp2_with (fail))
                                  go_roundg k2
                                  case measure => have := HJ8.out; have := HK2.out; omega
                                  case rel => exact ⟨(y208), (ji22), (by first | rfl | (simp; done) | (simp only [← hji22] <;> (first | rfl | simp)) | (simp [*]; done)), H', ⟨by have := HJ8.out; have := HK2.out; omega⟩, ⟨by rw [Ny208.out]; exact (Kd.R_putg (Kd.R_drewN HO_9.out _) ((ji22) : Int) true).1⟩, ⟨blk_grown (blk_drewN BK206.out _) (Kd.R_putg (Kd.R_drewN HO_9.out _) ((ji22) : Int) true).2 (Kd.R_ne HO_9.out BK206.out (by decide))⟩, ⟨below_set (by repeat (first | (with_reducible first | exact HB.out | apply below_alloc | apply pw_below_drewN | apply below_drew1) | exact HB.out)) GB25.out⟩⟩
                                · rw [if_neg c24] at H
                                  exact absurd H (by simp)
                              · rw [if_neg c23] at H
                                exact absurd H (by simp)
                            · rw [if_neg c21] at H
                              have c21b0 : (((rd_T49 l0 a1).f0) == 4) = false := beq_eq_false_iff_ne.mpr c21
                              have c21b1 : (((rd_T49 l0 a1).f0) != 4) = true := bne_iff_ne.mpr c21
                              by_cases c29 : ((rd_T49 l0 a1).f1).toList = (rdOf ByteArray.empty l2 x11_2).toList
                              · rw [if_pos c29] at H
                                have c29b0 : (((rd_T49 l0 a1).f1).toList == (rdOf ByteArray.empty l2 x11_2).toList) = true := beq_iff_eq.mpr c29
                                have c29b1 : (((rd_T49 l0 a1).f1).toList != (rdOf ByteArray.empty l2 x11_2).toList) = false := bne_eq_false_iff_eq.mpr c29
                                clear c29
                                obtain ⟨ji30, hji30⟩ : ∃ j_ : Int, (wrap64 (x11_2 + 1)) = j_ := ⟨_, rfl⟩
                                replace H : (if 0 ≤ (ji30) then (if (ji30) < (x9_2.length : Int) then (l8OnceG.l0 E_ k2 l2 l3 (x9_2.set ((ji30) : Int).toNat true) ji30 ((rd_T49 l0 a1).f0) ((rd_T49 l0 a1).f1) ((rd_T49 l0 a1).f2) ((rd_T49 l0 a1).f3)) else (none)) else (none)) = some r := by first | (rw [hji30] at H; exact H) | (simp only [hji30] at H ⊢; exact H)
                                have hji30w : (IntKind.i64.wrap (x11_2 + 1)) = ji30 := (i64_w _).trans hji30
                                by_cases c31 : 0 ≤ (ji30)
                                · rw [if_pos c31] at H
                                  have c31b0 : decide (0 ≤ (ji30)) = true := decide_eq_true c31
                                  clear c31
                                  by_cases c32 : (ji30) < (x9_2.length : Int)
                                  · rw [if_pos c32] at H
                                    have c32b0 : decide ((ji30) < (x9_2.length : Int)) = true := decide_eq_true c32
                                    clear c32
                                    obtain ⟨y210, hy210⟩ : ∃ y_ : List Bool, y_ = (x9_2.set ((ji30) : Int).toNat true) := ⟨_, rfl⟩
                                    replace H : (l8OnceG.l0 E_ k2 l2 l3 y210 ji30 ((rd_T49 l0 a1).f0) ((rd_T49 l0 a1).f1) ((rd_T49 l0 a1).f2) ((rd_T49 l0 a1).f3)) = some r := by first | (rw [hy210]; with_reducible exact H) | (have H2_ := (Option.bind_some _ _).symm.trans H; rw [hy210]; with_reducible exact H2_) | (have H2_ := (Option.bind_some _ _).symm.trans H; with_reducible exact H2_) | with_reducible exact H | (rw [hy210]; exact H) | exact H
                                    have Ny210 := Aside0.mk hy210
                                    clear hy210
                                    have H' := Aside0.mk H
                                    clear H
                                    have p207 : 0 ≤ (x11_2 : Int) := of_decide_eq_true (by first | (with_reducible assumption) | assumption)
                                    have q207 : x11_2 < (l3.length : Int) := of_decide_eq_true (by first | (with_reducible assumption) | assumption)
                                    obtain ⟨ad207, e207, hx207_0⟩ := Kd.at_bool HR3.out x11_2 p207 q207
                                    (try rw [← Nbq19.out] at hx207_0)
                                    cases e207
                                    replace hx207_0 := (HB.out.cell (World.block_lt_of_cell? w _ hx207_0)).trans hx207_0
                                    replace p207 := eq_true p207
                                    replace q207 := eq_true q207
                                    have hcz34_0 : wr.cell? ⟨gb206, 0, none⟩ = some (.int .i64 ((rd_T49 l0 a1).f0)) := (blk_cell BK206.out 0).trans rfl
                                    have hcz34_1 : wr.cell? ⟨gb206, 1, none⟩ = some (.string ((rd_T49 l0 a1).f1)) := (blk_cell BK206.out 1).trans rfl
                                    have hcz34_2 : wr.cell? ⟨gb206, 2, none⟩ = some (.slice A205_2 ((rd_T49 l0 a1).f2).length c205_2) := (blk_cell BK206.out 2).trans rfl
                                    have hcz34_3 : wr.cell? ⟨gb206, 3, none⟩ = some (.int .i64 ((rd_T49 l0 a1).f3)) := (blk_cell BK206.out 3).trans rfl
                                    have hfz34_0 := blk_frozen BK206.out 0
                                    have hfz34_1 := blk_frozen BK206.out 1
                                    have hfz34_2 := blk_frozen BK206.out 2
                                    have hfz34_3 := blk_frozen BK206.out 3
                                    have p209 : 0 ≤ (x11_2 : Int) := of_decide_eq_true (by first | (with_reducible assumption) | assumption)
                                    have q209 : x11_2 < (l2.length : Int) := of_decide_eq_true (by first | (with_reducible assumption) | assumption)
                                    obtain ⟨ad209, e209, hx209_0⟩ := Kd.at_string HR2.out x11_2 p209 q209
                                    cases e209
                                    replace hx209_0 := (HB.out.cell (World.block_lt_of_cell? w _ hx209_0)).trans hx209_0
                                    replace p209 := eq_true p209
                                    replace q209 := eq_true q209
                                    have p33 : 0 ≤ ((ji30) : Int) := of_decide_eq_true (by first | (with_reducible assumption) | assumption)
                                    have q33 : ((ji30) : Int) < ((x9_2.length : Int) : Int) := of_decide_eq_true (by first | (with_reducible assumption) | assumption)
                                    obtain ⟨go33, co33, eo33, gb33, gl33, cl33, HG33⟩ := Kd.R_form HO_9.out (by omega)
                                    (first | cases eo33 | (injection eo33 with ea_ en_ ec_; (first | subst ea_ | (injection ea_ with ea_; subst ea_)); subst ec_; clear en_))
                                    have GB33 := Aside0.mk gb33
                                    have GG33 := Aside0.mk HG33
                                    clear gb33 gl33 HG33
                                    obtain ⟨hx33_0, hf33_0⟩ := Kd.R_celln false HO_9.out ((ji30) : Int) p33 q33
                                    replace p33 := eq_true p33
                                    replace q33 := eq_true q33
                                    have HP35 := Kd.R_putg HO_9.out ((ji30) : Int) true
                                    go_wp2_with (fail)
                                    repeat (go_quiet (fail); try go_wp2_with (fail))
                                    go_roundg k2
                                    case measure => have := HJ8.out; have := HK2.out; omega
                                    case rel => exact ⟨(y210), (ji30), (by first | rfl | (simp; done) | (simp only [← hji30] <;> (first | rfl | simp)) | (simp [*]; done)), H', ⟨by have := HJ8.out; have := HK2.out; omega⟩, ⟨by rw [Ny210.out]; exact (Kd.R_putg (Kd.R_drewN HO_9.out _) ((ji30) : Int) true).1⟩, ⟨blk_grown (blk_drewN BK206.out _) (Kd.R_putg (Kd.R_drewN HO_9.out _) ((ji30) : Int) true).2 (Kd.R_ne HO_9.out BK206.out (by decide))⟩, ⟨below_set (by repeat (first | (with_reducible first | exact HB.out | apply below_alloc | apply pw_below_drewN | apply below_drew1) | exact HB.out)) GB33.out⟩⟩
                                  · rw [if_neg c32] at H
                                    exact absurd H (by simp)
                                · rw [if_neg c31] at H
                                  exact absurd H (by simp)
                              · rw [if_neg c29] at H
                                have c29b0 : (((rd_T49 l0 a1).f1).toList == (rdOf ByteArray.empty l2 x11_2).toList) = false := beq_eq_false_iff_ne.mpr c29
                                have c29b1 : (((rd_T49 l0 a1).f1).toList != (rdOf ByteArray.empty l2 x11_2).toList) = true := bne_iff_ne.mpr c29
                                have H' := Aside0.mk H
                                clear H
                                have p207 : 0 ≤ (x11_2 : Int) := of_decide_eq_true (by first | (with_reducible assumption) | assumption)
                                have q207 : x11_2 < (l3.length : Int) := of_decide_eq_true (by first | (with_reducible assumption) | assumption)
                                obtain ⟨ad207, e207, hx207_0⟩ := Kd.at_bool HR3.out x11_2 p207 q207
                                (try rw [← Nbq19.out] at hx207_0)
                                cases e207
                                replace hx207_0 := (HB.out.cell (World.block_lt_of_cell? w _ hx207_0)).trans hx207_0
                                replace p207 := eq_true p207
                                replace q207 := eq_true q207
                                have hcz37_0 : wr.cell? ⟨gb206, 0, none⟩ = some (.int .i64 ((rd_T49 l0 a1).f0)) := (blk_cell BK206.out 0).trans rfl
                                have hcz37_1 : wr.cell? ⟨gb206, 1, none⟩ = some (.string ((rd_T49 l0 a1).f1)) := (blk_cell BK206.out 1).trans rfl
                                have hcz37_2 : wr.cell? ⟨gb206, 2, none⟩ = some (.slice A205_2 ((rd_T49 l0 a1).f2).length c205_2) := (blk_cell BK206.out 2).trans rfl
                                have hcz37_3 : wr.cell? ⟨gb206, 3, none⟩ = some (.int .i64 ((rd_T49 l0 a1).f3)) := (blk_cell BK206.out 3).trans rfl
                                have hfz37_0 := blk_frozen BK206.out 0
                                have hfz37_1 := blk_frozen BK206.out 1
                                have hfz37_2 := blk_frozen BK206.out 2
                                have hfz37_3 := blk_frozen BK206.out 3
                                have p209 : 0 ≤ (x11_2 : Int) := of_decide_eq_true (by first | (with_reducible assumption) | assumption)
                                have q209 : x11_2 < (l2.length : Int) := of_decide_eq_true (by first | (with_reducible assumption) | assumption)
                                obtain ⟨ad209, e209, hx209_0⟩ := Kd.at_string HR2.out x11_2 p209 q209
                                cases e209
                                replace hx209_0 := (HB.out.cell (World.block_lt_of_cell? w _ hx209_0)).trans hx209_0
                                replace p209 := eq_true p209
                                replace q209 := eq_true q209
                                go_wp2
                                repeat (go_quiet (fail); try go_wp2)
                                go_roundg k2
                                case measure => have := HJ8.out; have := HK2.out; omega
                                case rel => exact ⟨(x9_2), (wrap64 (x11_2 + 1)), (by first | rfl | (simp; done) | (simp [*]; done)), H', ⟨by have := HJ8.out; have := HK2.out; omega⟩, ⟨by (with_reducible repeat (first | apply Kd.R_alloc | apply Kd.R_drewN | apply Kd.R_drew)); exact HO_9.out⟩, ⟨by refine blk_up ?_; exact BK206.out⟩, ⟨by repeat (first | (with_reducible first | exact HB.out | apply below_alloc | apply pw_below_drewN | apply below_drew1 | refine below_set ?_ GE206.out) | exact HB.out)⟩⟩
                          · replace c20 := Bool.eq_false_iff.mpr c20
                            subst c20
                            have H1 : (l8OnceG.l0 E_ k2 l2 l3 x9_2 (wrap64 (x11_2 + 1)) ((rd_T49 l0 a1).f0) ((rd_T49 l0 a1).f1) ((rd_T49 l0 a1).f2) ((rd_T49 l0 a1).f3)) = some r := by rw [if_neg (show ¬ (false = true) by decide)] at H; exact H
                            clear H
                            have H := H1
                            clear H1
                            have H' := Aside0.mk H
                            clear H
                            have p207 : 0 ≤ (x11_2 : Int) := of_decide_eq_true (by first | (with_reducible assumption) | assumption)
                            have q207 : x11_2 < (l3.length : Int) := of_decide_eq_true (by first | (with_reducible assumption) | assumption)
                            obtain ⟨ad207, e207, hx207_0⟩ := Kd.at_bool HR3.out x11_2 p207 q207
                            (try rw [← Nbq19.out] at hx207_0)
                            cases e207
                            replace hx207_0 := (HB.out.cell (World.block_lt_of_cell? w _ hx207_0)).trans hx207_0
                            replace p207 := eq_true p207
                            replace q207 := eq_true q207
                            go_wp2
                            repeat (go_quiet (fail); try go_wp2)
                            go_roundg k2
                            case measure => have := HJ8.out; have := HK2.out; omega
                            case rel => exact ⟨(x9_2), (wrap64 (x11_2 + 1)), (by first | rfl | (simp; done) | (simp [*]; done)), H', ⟨by have := HJ8.out; have := HK2.out; omega⟩, ⟨by (with_reducible repeat (first | apply Kd.R_alloc | apply Kd.R_drewN | apply Kd.R_drew)); exact HO_9.out⟩, ⟨by refine blk_up ?_; exact BK206.out⟩, ⟨by repeat (first | (with_reducible first | exact HB.out | apply below_alloc | apply pw_below_drewN | apply below_drew1 | refine below_set ?_ GE206.out) | exact HB.out)⟩⟩
                        · rw [if_neg c18] at H
                          exact absurd H (by simp)
                      · rw [if_neg c17] at H
                        exact absurd H (by simp)
                    · rw [if_neg c16] at H
                      have c16b0 : decide (x11_2 < (l2.length : Int)) = false := decide_eq_false c16
                      clear c16
                      obtain rfl := Option.some.inj H
                      go_wp2
                      go_ret
                      exact ⟨_, by first | rfl | (simp [errW_none, errW_some] <;> rfl) | (simp [*, errW_none, errW_some] <;> rfl), by (with_reducible repeat (first | apply Kd.R_alloc | apply Kd.R_drewN | apply Kd.R_drew)); exact HO_9.out, by repeat (first | (with_reducible first | exact HB.out | apply below_alloc | apply pw_below_drewN | apply below_drew1 | refine below_set ?_ GE206.out) | exact HB.out)⟩
              · replace c15 := Bool.eq_false_iff.mpr c15
                subst c15
                have H1 : (if ((rd_T49 l0 a1).f0) = 2 then ((some (([] : List Bool) : List Bool)).bind fun y211 => (if y211.length + l3.length < 140737488355328 then (l8OnceG.l1 E_ kj8 l0 l2 (y211 ++ l3) 0 ((rd_T49 l0 a1).f0) ((rd_T49 l0 a1).f1) ((rd_T49 l0 a1).f2) ((rd_T49 l0 a1).f3)) else (none))) else (if ((rd_T49 l0 a1).f0) = 3 then (l8OnceG.l2 E_ kj8 l0 l2 l3 y202 0 ((rd_T49 l0 a1).f0) ((rd_T49 l0 a1).f1) ((rd_T49 l0 a1).f2) ((rd_T49 l0 a1).f3)) else (some y202))) = some r := by rw [if_neg (show ¬ (false = true) by decide)] at H; exact H
                clear H
                have H := H1
                clear H1
                by_cases c38 : ((rd_T49 l0 a1).f0) = 2
                · rw [if_pos c38] at H
                  have c38b0 : (((rd_T49 l0 a1).f0) == 2) = true := beq_iff_eq.mpr c38
                  have c38b1 : (((rd_T49 l0 a1).f0) != 2) = false := bne_eq_false_iff_eq.mpr c38
                  clear c38
                  obtain ⟨y211, hy211⟩ : ∃ y_ : List Bool, y_ = (([] : List Bool)) := ⟨_, rfl⟩
                  replace H : (if y211.length + l3.length < 140737488355328 then (l8OnceG.l1 E_ kj8 l0 l2 (y211 ++ l3) 0 ((rd_T49 l0 a1).f0) ((rd_T49 l0 a1).f1) ((rd_T49 l0 a1).f2) ((rd_T49 l0 a1).f3)) else (none)) = some r := by first | (rw [hy211]; with_reducible exact H) | (have H2_ := (Option.bind_some _ _).symm.trans H; rw [hy211]; with_reducible exact H2_) | (have H2_ := (Option.bind_some _ _).symm.trans H; with_reducible exact H2_) | with_reducible exact H | (rw [hy211]; exact H) | exact H
                  have Ny211 := Aside0.mk hy211
                  clear hy211
                  by_cases c39 : y211.length + l3.length < 140737488355328
                  · rw [if_pos c39] at H
                    have LMc39 := Aside0.mk c39
                    clear c39
                    obtain ⟨y214, hy214⟩ : ∃ y_ : List Bool, y_ = (y211 ++ l3) := ⟨_, rfl⟩
                    replace H : (l8OnceG.l1 E_ kj8 l0 l2 y214 0 ((rd_T49 l0 a1).f0) ((rd_T49 l0 a1).f1) ((rd_T49 l0 a1).f2) ((rd_T49 l0 a1).f3)) = some r := by first | (rw [hy214]; with_reducible exact H) | (have H2_ := (Option.bind_some _ _).symm.trans H; rw [hy214]; with_reducible exact H2_) | (have H2_ := (Option.bind_some _ _).symm.trans H; with_reducible exact H2_) | with_reducible exact H | (rw [hy214]; exact H) | exact H
                    have Ny214 := Aside0.mk hy214
                    clear hy214
                    have H' := Aside0.mk H
                    clear H
                    go_wp2_with (first | ((with_reducible refine gate_dst (N := 58) rfl ?_); refine Kd.R_lit Kd.bool _ 4 ?hg (N := 58) ?hd (xs := ([] : List Bool)) (inner := []) (ok := fun _ => True) (okp := fun _ => True) ?hr ?hp (fun _ hk => hk) trivial (Below.refl _ _) (Nat.le_refl _) (by simp) ?_; (case hd => rfl); (case hg => rfl); (case hr => first | (go_simp; done) | (go_simp; rfl)); (case hp => exact (Reps.none _ _)); intro v212 w40 ho41 hb hg_ hnew_; clear hg_ hnew_; (first | rw [← Ny211.out] at ho41 | (simp only [Int.reduceToNat] at ho41; rw [← Ny211.out] at ho41)); have n0_ := Aside0.mk (Kd.R_elder' (by (with_reducible repeat (first | apply Kd.R_alloc | apply Kd.R_drewN | apply Kd.R_drew)); exact HO_9.out) (Kd.R_base ho41) hb); have n1_ := Aside0.mk (Kd.R_lower (Kd.R_new' ho41 (Kd.R_lt (by (with_reducible repeat (first | apply Kd.R_alloc | apply Kd.R_drewN | apply Kd.R_drew)); exact HO_9.out))) (below_size (by repeat (first | (with_reducible first | exact HB.out | apply below_alloc | apply pw_below_drewN | apply below_drew1 | refine below_set ?_ GE206.out) | exact HB.out)))); have n2_ := Aside0.mk (blk_below (g := gb206) (o := .cells #[.int .i64 ((rd_T49 l0 a1).f0), .string ((rd_T49 l0 a1).f1), .slice A205_2 ((rd_T49 l0 a1).f2).length c205_2, .int .i64 ((rd_T49 l0 a1).f3)] 49 (0, 0)) (by refine blk_up ?_; exact BK206.out) hb); have n3_ := Aside0.mk (below_step (by repeat (first | (with_reducible first | exact HB.out | apply below_alloc | apply pw_below_drewN | apply below_drew1 | refine below_set ?_ GE206.out) | exact HB.out)) hb); clear HO_9; clear BK206; clear HB; have HO_9 := n0_; have HO213 := n1_; have BK206 := n2_; have HB := n3_; clear n0_ n1_ n2_ n3_; clear hb ho41) | ((with_reducible refine gate_builtin (b := .append) (xs := #[.tmp 58, .tmp 59]) rfl ?_); at_builtin; refine Kd.R_append_rows Kd.bool (w0 := w) w.heap.size rfl (.tmp 58) (.tmp 59) 56 4 (.bool false) 1 rfl Try.underlying56 info4 rfl (by decide) (by omega) v212 y211 l3 _ _ _ (fun k_ => some k_ ≠ (v203 : Value).ownBlock) (fun _ => False) rfl rfl ?aO ?aR (fun _ _ h => h) (fun _ h => h.elim) ?aF ?aB ?aS ?aL ?_; (case aR => repeat (first | exact (Kd.C_below HR3.out HB.out) | (with_reducible refine Kd.C_alloc ?_ _) | (with_reducible refine Kd.C_drewN ?_ _) | (with_reducible refine Kd.C_drew ?_))); (case aB => exact (by repeat (first | (with_reducible first | exact HB.out | apply below_alloc | apply pw_below_drewN | apply below_drew1 | refine below_set ?_ GE206.out) | exact HB.out))); (case aF => exact (fun k_ hk => Kd.fresh' (Kd.R_lt (by (with_reducible repeat (first | apply Kd.R_alloc | apply Kd.R_drewN | apply Kd.R_drew)); exact HO_9.out)) k_ hk)); (case aO => exact (by (with_reducible repeat (first | apply Kd.R_alloc | apply Kd.R_drewN | apply Kd.R_drew)); exact Kd.R_mono HO213.out (fun _ hk => hk.2))); (case aS => exact (below_size (by repeat (first | (with_reducible first | exact HB.out | apply below_alloc | apply pw_below_drewN | apply below_drew1 | refine below_set ?_ GE206.out) | exact HB.out)))); (case aL => have := LMc39.out; omega); intro v215 w42 ho hb hg hat; rw [← Ny214.out] at ho; have n0_ := Aside0.mk (Kd.R_after (ok := (fun _ => True)) (by (with_reducible repeat (first | apply Kd.R_alloc | apply Kd.R_drewN | apply Kd.R_drew)); exact HO_9.out) hg hat); have n1_ := Aside0.mk (blk_grown (g := gb206) (o := .cells #[.int .i64 ((rd_T49 l0 a1).f0), .string ((rd_T49 l0 a1).f1), .slice A205_2 ((rd_T49 l0 a1).f2).length c205_2, .int .i64 ((rd_T49 l0 a1).f3)] 49 (0, 0)) (by refine blk_up ?_; exact BK206.out) hg (Kd.R_ne HO213.out BK206.out (by decide))); have n2_ := Aside0.mk (hb); have n3_ := Aside0.mk (ho); clear HO_9; clear BK206; clear HB; clear HO213; have HO_9 := n0_; have BK206 := n1_; have HB := n2_; have HO216 := n3_; clear n0_ n1_ n2_ n3_; clear ho hb hg hat))
                    go_loopg [9, 12] kj8 (fun kq v9 v12 w' => ∃ (x9_2 : List Bool) (x12_2 : Int), v12 = .int .i64 x12_2 ∧ Aside0 (l8OnceG.l1 E_ kq l0 l2 x9_2 x12_2 ((rd_T49 l0 a1).f0) ((rd_T49 l0 a1).f1) ((rd_T49 l0 a1).f2) ((rd_T49 l0 a1).f3) = some r) ∧ Aside0 (kq ≤ kj8) ∧ Aside0 (Kd.R Kd.bool 4 w' w.heap.size (fun _ => True) v9 x9_2) ∧ Aside0 (w'.heap[gb206]? = some (.cells #[.int .i64 ((rd_T49 l0 a1).f0), .string ((rd_T49 l0 a1).f1), (.slice A205_2 ((rd_T49 l0 a1).f2).length c205_2), .int .i64 ((rd_T49 l0 a1).f3)] 49 (0, 0))) ∧ Aside0 (Below w.heap.size w w'))
                    case atStart => exact ⟨(y214), (0), (by first | rfl | (simp; done) | (simp [*]; done)), H', ⟨Nat.le_refl _⟩, ⟨by (with_reducible repeat (first | apply Kd.R_alloc | apply Kd.R_drewN | apply Kd.R_drew)); exact Kd.R_mono HO216.out (fun _ hk => trivial)⟩, ⟨by refine blk_up ?_; exact BK206.out⟩, ⟨by repeat (first | (with_reducible first | exact HB.out | apply below_alloc | apply pw_below_drewN | apply below_drew1 | refine below_set ?_ GE206.out) | exact HB.out)⟩⟩
                    case round =>
                      clear H'
                      try clear c38b0
                      try clear c38b1
                      obtain ⟨x9_2, x12_2, rfl, HA, HK2, HO_9, BK206, HB⟩ := hrel
                      cases gk with
                      | zero => exact absurd HA.out (by simp [l8OnceG.l1])
                      | succ k2 =>
                        have H := HA.out
                        clear HA
                        simp only [l8OnceG.l1] at H
                        by_cases c43 : x12_2 < (((rd_T49 l0 a1).f2).length : Int)
                        · rw [if_pos c43] at H
                          have c43b0 : decide (x12_2 < (((rd_T49 l0 a1).f2).length : Int)) = true := decide_eq_true c43
                          clear c43
                          by_cases c44 : 0 ≤ x12_2
                          · rw [if_pos c44] at H
                            have c44b0 : decide (0 ≤ x12_2) = true := decide_eq_true c44
                            clear c44
                            replace H := Option.bind_eq_some_iff.mp H
                            obtain ⟨t218, A450, H⟩ := H
                            replace H : (l8OnceG.l1 E_ k2 l0 l2 t218 (wrap64 (x12_2 + 1)) ((rd_T49 l0 a1).f0) ((rd_T49 l0 a1).f1) ((rd_T49 l0 a1).f2) ((rd_T49 l0 a1).f3)) = some r := H
                            have A45 := Aside0.mk A450
                            clear A450
                            have H' := Aside0.mk H
                            clear H
                            have hcz46_0 : wr.cell? ⟨gb206, 0, none⟩ = some (.int .i64 ((rd_T49 l0 a1).f0)) := (blk_cell BK206.out 0).trans rfl
                            have hcz46_1 : wr.cell? ⟨gb206, 1, none⟩ = some (.string ((rd_T49 l0 a1).f1)) := (blk_cell BK206.out 1).trans rfl
                            have hcz46_2 : wr.cell? ⟨gb206, 2, none⟩ = some (.slice A205_2 ((rd_T49 l0 a1).f2).length c205_2) := (blk_cell BK206.out 2).trans rfl
                            have hcz46_3 : wr.cell? ⟨gb206, 3, none⟩ = some (.int .i64 ((rd_T49 l0 a1).f3)) := (blk_cell BK206.out 3).trans rfl
                            have hfz46_0 := blk_frozen BK206.out 0
                            have hfz46_1 := blk_frozen BK206.out 1
                            have hfz46_2 := blk_frozen BK206.out 2
                            have hfz46_3 := blk_frozen BK206.out 3
                            have p217 : 0 ≤ (x12_2 : Int) := of_decide_eq_true (by first | (with_reducible assumption) | assumption)
                            have q217 : x12_2 < (((rd_T49 l0 a1).f2).length : Int) := of_decide_eq_true (by first | (with_reducible assumption) | assumption)
                            obtain ⟨ad217, e217, hx217_0⟩ := Kd.at_int HR205_2.out x12_2 p217 q217
                            cases e217
                            replace hx217_0 := (HB.out.cell (World.block_lt_of_cell? w _ hx217_0)).trans hx217_0
                            replace p217 := eq_true p217
                            replace q217 := eq_true q217
                            obtain ⟨Ao47, co47, eo47⟩ := Kd.R_slice HO_9.out
                            subst eo47
                            go_wp2_with (first | (go_at_call 72; (with_reducible refine (HE_.out k2 _ _ l0 (rd ((rd_T49 l0 a1).f2) x12_2) _ _ l2 _ _ x9_2 t218 _ ?side1 ?side2 ?side3 ?side4 ?side5 ?side6 A45.out).mono ?_); (case side1 => repeat (first | exact (Kd.C_below HR0.out HB.out) | (with_reducible refine Kd.C_alloc ?_ _) | (with_reducible refine Kd.C_drewN ?_ _) | (with_reducible refine Kd.C_drew ?_))); (case side2 => exact HC0.out); (case side3 => repeat (first | exact (Kd.C_below HR2.out HB.out) | (with_reducible refine Kd.C_alloc ?_ _) | (with_reducible refine Kd.C_drewN ?_ _) | (with_reducible refine Kd.C_drew ?_))); (case side4 => exact HC2.out); (case side5 => repeat (first | exact (Kd.R_reads' HO_9.out).2.2 | (with_reducible refine Kd.C_alloc ?_ _) | (with_reducible refine Kd.C_drewN ?_ _) | (with_reducible refine Kd.C_drew ?_))); (case side6 => exact (Kd.R_reads' HO_9.out).2.1); rintro e w48 ⟨v219, rfl, ho0, hb⟩; have n0_ := Aside0.mk (Kd.R_elder' (by (with_reducible repeat (first | apply Kd.R_alloc | apply Kd.R_drewN | apply Kd.R_drew)); exact HO_9.out) (Kd.R_base ho0) hb); have n1_ := Aside0.mk (Kd.R_lower (Kd.R_new' ho0 (Kd.R_lt (by (with_reducible repeat (first | apply Kd.R_alloc | apply Kd.R_drewN | apply Kd.R_drew)); exact HO_9.out))) (below_size (by repeat (first | (with_reducible first | exact HB.out | apply below_alloc | apply pw_below_drewN | apply below_drew1 | refine below_set ?_ GE206.out) | exact HB.out)))); have n2_ := Aside0.mk (blk_below (g := gb206) (o := .cells #[.int .i64 ((rd_T49 l0 a1).f0), .string ((rd_T49 l0 a1).f1), .slice (some ad217) ((rd_T49 l0 a1).f2).length c205_2, .int .i64 ((rd_T49 l0 a1).f3)] 49 (0, 0)) (by refine blk_up ?_; exact BK206.out) hb); have n3_ := Aside0.mk (below_step (by repeat (first | (with_reducible first | exact HB.out | apply below_alloc | apply pw_below_drewN | apply below_drew1 | refine below_set ?_ GE206.out) | exact HB.out)) hb); clear HO_9; clear BK206; clear HB; have HO_9 := n0_; have HO220 := n1_; have BK206 := n2_; have HB := n3_; clear n0_ n1_ n2_ n3_; (try clear hb); (try clear hb2); (try clear hk); (try clear hi); (try clear ho0)))
                            go_roundg k2
                            case measure => have := HJ8.out; have := HK2.out; omega
                            case rel => exact ⟨(t218), (wrap64 (x12_2 + 1)), (by first | rfl | (simp; done) | (simp [*]; done)), H', ⟨by have := HJ8.out; have := HK2.out; omega⟩, ⟨by (with_reducible repeat (first | apply Kd.R_alloc | apply Kd.R_drewN | apply Kd.R_drew)); exact Kd.R_mono HO220.out (fun _ hk => trivial)⟩, ⟨by refine blk_up ?_; exact BK206.out⟩, ⟨by repeat (first | (with_reducible first | exact HB.out | apply below_alloc | apply pw_below_drewN | apply below_drew1 | refine below_set ?_ GE206.out) | exact HB.out)⟩⟩
                          · rw [if_neg c44] at H
                            exact absurd H (by simp)
                        · rw [if_neg c43] at H
                          have c43b0 : decide (x12_2 < (((rd_T49 l0 a1).f2).length : Int)) = false := decide_eq_false c43
                          clear c43
                          obtain rfl := Option.some.inj H
                          have hcz49_0 : wr.cell? ⟨gb206, 0, none⟩ = some (.int .i64 ((rd_T49 l0 a1).f0)) := (blk_cell BK206.out 0).trans rfl
                          have hcz49_1 : wr.cell? ⟨gb206, 1, none⟩ = some (.string ((rd_T49 l0 a1).f1)) := (blk_cell BK206.out 1).trans rfl
                          have hcz49_2 : wr.cell? ⟨gb206, 2, none⟩ = some (.slice A205_2 ((rd_T49 l0 a1).f2).length c205_2) := (blk_cell BK206.out 2).trans rfl
                          have hcz49_3 : wr.cell? ⟨gb206, 3, none⟩ = some (.int .i64 ((rd_T49 l0 a1).f3)) := (blk_cell BK206.out 3).trans rfl
                          have hfz49_0 := blk_frozen BK206.out 0
                          have hfz49_1 := blk_frozen BK206.out 1
                          have hfz49_2 := blk_frozen BK206.out 2
                          have hfz49_3 := blk_frozen BK206.out 3
                          go_wp2
                          go_ret
                          exact ⟨_, by first | rfl | (simp [errW_none, errW_some] <;> rfl) | (simp [*, errW_none, errW_some] <;> rfl), by (with_reducible repeat (first | apply Kd.R_alloc | apply Kd.R_drewN | apply Kd.R_drew)); exact HO_9.out, by repeat (first | (with_reducible first | exact HB.out | apply below_alloc | apply pw_below_drewN | apply below_drew1 | refine below_set ?_ GE206.out) | exact HB.out)⟩
                  · rw [if_neg c39] at H
                    exact absurd H (by simp)
                · rw [if_neg c38] at H
                  have c38b0 : (((rd_T49 l0 a1).f0) == 2) = false := beq_eq_false_iff_ne.mpr c38
                  have c38b1 : (((rd_T49 l0 a1).f0) != 2) = true := bne_iff_ne.mpr c38
                  by_cases c50 : ((rd_T49 l0 a1).f0) = 3
                  · rw [if_pos c50] at H
                    have c50b0 : (((rd_T49 l0 a1).f0) == 3) = true := beq_iff_eq.mpr c50
                    have c50b1 : (((rd_T49 l0 a1).f0) != 3) = false := bne_eq_false_iff_eq.mpr c50
                    clear c50
                    have H' := Aside0.mk H
                    clear H
                    go_wp2
                    go_loopg [13] kj8 (fun kq v13 w' => ∃ (x9_2 : List Bool) (x13_2 : Int), v13 = .int .i64 x13_2 ∧ Aside0 (l8OnceG.l2 E_ kq l0 l2 l3 x9_2 x13_2 ((rd_T49 l0 a1).f0) ((rd_T49 l0 a1).f1) ((rd_T49 l0 a1).f2) ((rd_T49 l0 a1).f3) = some r) ∧ Aside0 (kq ≤ kj8) ∧ Aside0 (Kd.R Kd.bool 4 w' w.heap.size (fun _ => True) v203 x9_2) ∧ Aside0 (w'.heap[gb206]? = some (.cells #[.int .i64 ((rd_T49 l0 a1).f0), .string ((rd_T49 l0 a1).f1), (.slice A205_2 ((rd_T49 l0 a1).f2).length c205_2), .int .i64 ((rd_T49 l0 a1).f3)] 49 (0, 0))) ∧ Aside0 (Below w.heap.size w w'))
                    case atStart => exact ⟨(y202), (0), (by first | rfl | (simp; done) | (simp [*]; done)), H', ⟨Nat.le_refl _⟩, ⟨by (with_reducible repeat (first | apply Kd.R_alloc | apply Kd.R_drewN | apply Kd.R_drew)); exact HO_9.out⟩, ⟨by refine blk_up ?_; exact BK206.out⟩, ⟨by repeat (first | (with_reducible first | exact HB.out | apply below_alloc | apply pw_below_drewN | apply below_drew1 | refine below_set ?_ GE206.out) | exact HB.out)⟩⟩
                    case round =>
                      clear H'
                      try clear c38
                      try clear c38b0
                      try clear c38b1
                      try clear c50b0
                      try clear c50b1
                      obtain ⟨x9_2, x13_2, rfl, HA, HK2, HO_9, BK206, HB⟩ := hrel
                      cases gk with
                      | zero => exact absurd HA.out (by simp [l8OnceG.l2])
                      | succ k2 =>
                        have H := HA.out
                        clear HA
                        simp only [l8OnceG.l2] at H
                        by_cases c51 : x13_2 < (((rd_T49 l0 a1).f2).length : Int)
                        · rw [if_pos c51] at H
                          have c51b0 : decide (x13_2 < (((rd_T49 l0 a1).f2).length : Int)) = true := decide_eq_true c51
                          clear c51
                          by_cases c52 : 0 ≤ x13_2
                          · rw [if_pos c52] at H
                            have c52b0 : decide (0 ≤ x13_2) = true := decide_eq_true c52
                            clear c52
                            replace H := Option.bind_eq_some_iff.mp H
                            obtain ⟨t222, A530, H⟩ := H
                            replace H : (l8OnceG.l3 E_ k2 l0 l2 l3 x9_2 x13_2 t222 0 ((rd_T49 l0 a1).f0) ((rd_T49 l0 a1).f1) ((rd_T49 l0 a1).f2) ((rd_T49 l0 a1).f3)) = some r := H
                            have A53 := Aside0.mk A530
                            clear A530
                            have H' := Aside0.mk H
                            clear H
                            have hcz54_0 : wr.cell? ⟨gb206, 0, none⟩ = some (.int .i64 ((rd_T49 l0 a1).f0)) := (blk_cell BK206.out 0).trans rfl
                            have hcz54_1 : wr.cell? ⟨gb206, 1, none⟩ = some (.string ((rd_T49 l0 a1).f1)) := (blk_cell BK206.out 1).trans rfl
                            have hcz54_2 : wr.cell? ⟨gb206, 2, none⟩ = some (.slice A205_2 ((rd_T49 l0 a1).f2).length c205_2) := (blk_cell BK206.out 2).trans rfl
                            have hcz54_3 : wr.cell? ⟨gb206, 3, none⟩ = some (.int .i64 ((rd_T49 l0 a1).f3)) := (blk_cell BK206.out 3).trans rfl
                            have hfz54_0 := blk_frozen BK206.out 0
                            have hfz54_1 := blk_frozen BK206.out 1
                            have hfz54_2 := blk_frozen BK206.out 2
                            have hfz54_3 := blk_frozen BK206.out 3
                            have p221 : 0 ≤ (x13_2 : Int) := of_decide_eq_true (by first | (with_reducible assumption) | assumption)
                            have q221 : x13_2 < (((rd_T49 l0 a1).f2).length : Int) := of_decide_eq_true (by first | (with_reducible assumption) | assumption)
                            obtain ⟨ad221, e221, hx221_0⟩ := Kd.at_int HR205_2.out x13_2 p221 q221
                            cases e221
                            replace hx221_0 := (HB.out.cell (World.block_lt_of_cell? w _ hx221_0)).trans hx221_0
                            replace p221 := eq_true p221
                            replace q221 := eq_true q221
                            go_wp2_with (first | (go_at_call 72; (with_reducible refine (HE_.out k2 _ _ l0 (rd ((rd_T49 l0 a1).f2) x13_2) _ _ l2 _ _ l3 t222 _ ?side1 ?side2 ?side3 ?side4 ?side5 ?side6 A53.out).mono ?_); (case side1 => repeat (first | exact (Kd.C_below HR0.out HB.out) | (with_reducible refine Kd.C_alloc ?_ _) | (with_reducible refine Kd.C_drewN ?_ _) | (with_reducible refine Kd.C_drew ?_))); (case side2 => exact HC0.out); (case side3 => repeat (first | exact (Kd.C_below HR2.out HB.out) | (with_reducible refine Kd.C_alloc ?_ _) | (with_reducible refine Kd.C_drewN ?_ _) | (with_reducible refine Kd.C_drew ?_))); (case side4 => exact HC2.out); (case side5 => repeat (first | exact (Kd.C_below HR3.out HB.out) | (with_reducible refine Kd.C_alloc ?_ _) | (with_reducible refine Kd.C_drewN ?_ _) | (with_reducible refine Kd.C_drew ?_))); (case side6 => exact HC3.out); rintro e w55 ⟨v223, rfl, ho0, hb⟩; have n0_ := Aside0.mk (Kd.R_elder' (by (with_reducible repeat (first | apply Kd.R_alloc | apply Kd.R_drewN | apply Kd.R_drew)); exact HO_9.out) (Kd.R_base ho0) hb); have n1_ := Aside0.mk (Kd.R_lower (Kd.R_new' ho0 (Kd.R_lt (by (with_reducible repeat (first | apply Kd.R_alloc | apply Kd.R_drewN | apply Kd.R_drew)); exact HO_9.out))) (below_size (by repeat (first | (with_reducible first | exact HB.out | apply below_alloc | apply pw_below_drewN | apply below_drew1 | refine below_set ?_ GE206.out) | exact HB.out)))); have n2_ := Aside0.mk (blk_below (g := gb206) (o := .cells #[.int .i64 ((rd_T49 l0 a1).f0), .string ((rd_T49 l0 a1).f1), .slice (some ad221) ((rd_T49 l0 a1).f2).length c205_2, .int .i64 ((rd_T49 l0 a1).f3)] 49 (0, 0)) (by refine blk_up ?_; exact BK206.out) hb); have n3_ := Aside0.mk (below_step (by repeat (first | (with_reducible first | exact HB.out | apply below_alloc | apply pw_below_drewN | apply below_drew1 | refine below_set ?_ GE206.out) | exact HB.out)) hb); clear HO_9; clear BK206; clear HB; have HO_9 := n0_; have HO224 := n1_; have BK206 := n2_; have HB := n3_; clear n0_ n1_ n2_ n3_; (try clear hb); (try clear hb2); (try clear hk); (try clear hi); (try clear ho0)))
                            go_loopg [15] k2 (fun kq v15 w' => ∃ (x9_3 : List Bool) (x15_3 : Int), v15 = .int .i64 x15_3 ∧ Aside0 (l8OnceG.l3 E_ kq l0 l2 l3 x9_3 x13_2 t222 x15_3 ((rd_T49 l0 a1).f0) ((rd_T49 l0 a1).f1) ((rd_T49 l0 a1).f2) ((rd_T49 l0 a1).f3) = some r) ∧ Aside0 (kq ≤ k2) ∧ Aside0 (Kd.R Kd.bool 4 w' w.heap.size (fun k_ => some k_ ≠ (v223 : Value).ownBlock) v203 x9_3) ∧ Aside0 (Kd.R Kd.bool 4 w' w.heap.size (fun k_ => some k_ ≠ (v203 : Value).ownBlock) v223 t222) ∧ Aside0 (w'.heap[gb206]? = some (.cells #[.int .i64 ((rd_T49 l0 a1).f0), .string ((rd_T49 l0 a1).f1), (.slice (some ad221) ((rd_T49 l0 a1).f2).length c205_2), .int .i64 ((rd_T49 l0 a1).f3)] 49 (0, 0))) ∧ Aside0 (Below w.heap.size w w'))
                            case atStart => exact ⟨(x9_2), (0), (by first | rfl | (simp; done) | (simp [*]; done)), H', ⟨Nat.le_refl _⟩, ⟨by (with_reducible repeat (first | apply Kd.R_alloc | apply Kd.R_drewN | apply Kd.R_drew)); exact Kd.R_mono HO_9.out (fun _ hk => hk.2)⟩, ⟨by (with_reducible repeat (first | apply Kd.R_alloc | apply Kd.R_drewN | apply Kd.R_drew)); exact Kd.R_mono HO224.out (fun _ hk => hk.2)⟩, ⟨by refine blk_up ?_; exact BK206.out⟩, ⟨by repeat (first | (with_reducible first | exact HB.out | apply below_alloc | apply pw_below_drewN | apply below_drew1 | refine below_set ?_ GE206.out) | exact HB.out)⟩⟩
                            case round =>
                              clear H'
                              try clear c51b0
                              try clear c52b0
                              try clear hcz54_0
                              try clear hcz54_1
                              try clear hcz54_2
                              try clear hcz54_3
                              try clear hfz54_0
                              try clear hfz54_1
                              try clear hfz54_2
                              try clear hfz54_3
                              try clear hx221_0
                              try clear p221
                              try clear q221
                              obtain ⟨x9_3, x15_3, rfl, HA, HK3, HO_9, HO_14, BK206, HB⟩ := hrel
                              cases gk with
                              | zero => exact absurd HA.out (by simp [l8OnceG.l3])
                              | succ k3 =>
                                have H := HA.out
                                clear HA
                                simp only [l8OnceG.l3] at H
                                by_cases c56 : x15_3 < (x9_3.length : Int)
                                · rw [if_pos c56] at H
                                  have c56b0 : decide (x15_3 < (x9_3.length : Int)) = true := decide_eq_true c56
                                  clear c56
                                  by_cases c57 : 0 ≤ x15_3
                                  · rw [if_pos c57] at H
                                    have c57b0 : decide (0 ≤ x15_3) = true := decide_eq_true c57
                                    clear c57
                                    obtain ⟨bq58, hbq58⟩ : ∃ b_ : Bool, b_ = (rdOf false x9_3 x15_3) := ⟨_, rfl⟩
                                    replace H : (if bq58 = true then (l8OnceG.l3 E_ k3 l0 l2 l3 (x9_3.set (x15_3 : Int).toNat true) x13_2 t222 (wrap64 (x15_3 + 1)) ((rd_T49 l0 a1).f0) ((rd_T49 l0 a1).f1) ((rd_T49 l0 a1).f2) ((rd_T49 l0 a1).f3)) else (if x15_3 < (t222.length : Int) then (l8OnceG.l3 E_ k3 l0 l2 l3 (x9_3.set (x15_3 : Int).toNat (rdOf false t222 x15_3)) x13_2 t222 (wrap64 (x15_3 + 1)) ((rd_T49 l0 a1).f0) ((rd_T49 l0 a1).f1) ((rd_T49 l0 a1).f2) ((rd_T49 l0 a1).f3)) else (none))) = some r := by rw [← hbq58] at H; exact H
                                    have Nbq58 := Aside0.mk hbq58
                                    clear hbq58
                                    by_cases c59 : bq58 = true
                                    · subst c59
                                      have H1 : (l8OnceG.l3 E_ k3 l0 l2 l3 (x9_3.set (x15_3 : Int).toNat true) x13_2 t222 (wrap64 (x15_3 + 1)) ((rd_T49 l0 a1).f0) ((rd_T49 l0 a1).f1) ((rd_T49 l0 a1).f2) ((rd_T49 l0 a1).f3)) = some r := by rw [if_pos rfl] at H; exact H
                                      clear H
                                      have H := H1
                                      clear H1
                                      obtain ⟨y226, hy226⟩ : ∃ y_ : List Bool, y_ = (x9_3.set (x15_3 : Int).toNat true) := ⟨_, rfl⟩
                                      replace H : (l8OnceG.l3 E_ k3 l0 l2 l3 y226 x13_2 t222 (wrap64 (x15_3 + 1)) ((rd_T49 l0 a1).f0) ((rd_T49 l0 a1).f1) ((rd_T49 l0 a1).f2) ((rd_T49 l0 a1).f3)) = some r := by first | (rw [hy226]; with_reducible exact H) | (have H2_ := (Option.bind_some _ _).symm.trans H; rw [hy226]; with_reducible exact H2_) | (have H2_ := (Option.bind_some _ _).symm.trans H; with_reducible exact H2_) | with_reducible exact H | (rw [hy226]; exact H) | exact H
                                      have Ny226 := Aside0.mk hy226
                                      clear hy226
                                      have H' := Aside0.mk H
                                      clear H
                                      obtain ⟨Ao61, co61, eo61⟩ := Kd.R_slice HO_9.out
                                      subst eo61
                                      have p225 : 0 ≤ (x15_3 : Int) := of_decide_eq_true (by first | (with_reducible assumption) | assumption)
                                      have q225 : x15_3 < (x9_3.length : Int) := of_decide_eq_true (by first | (with_reducible assumption) | assumption)
                                      obtain ⟨ad225, e225, hx225_0⟩ := Kd.at_bool (Kd.R_reads' HO_9.out).2.2 x15_3 p225 q225
                                      (try rw [← Nbq58.out] at hx225_0)
                                      cases e225
                                      replace p225 := eq_true p225
                                      replace q225 := eq_true q225
                                      have p60 : 0 ≤ (x15_3 : Int) := of_decide_eq_true (by first | (with_reducible assumption) | assumption)
                                      have q60 : (x15_3 : Int) < ((x9_3.length : Int) : Int) := of_decide_eq_true (by first | (with_reducible assumption) | assumption)
                                      obtain ⟨go60, co60, eo60, gb60, gl60, cl60, HG60⟩ := Kd.R_form HO_9.out (by omega)
                                      (first | cases eo60 | (injection eo60 with ea_ en_ ec_; (first | subst ea_ | (injection ea_ with ea_; subst ea_)); subst ec_; clear en_))
                                      have GB60 := Aside0.mk gb60
                                      have GG60 := Aside0.mk HG60
                                      clear gb60 gl60 HG60
                                      (first | simp only [add_plain] at hx225_0 | skip)
                                      obtain ⟨hx60_0, hf60_0⟩ := Kd.R_celln false HO_9.out (x15_3 : Int) p60 q60
                                      replace p60 := eq_true p60
                                      replace q60 := eq_true q60
                                      have HP62 := Kd.R_putg HO_9.out (x15_3 : Int) true
                                      go_wp2_with (first | ((with_reducible refine gate_store (t := 4) (p := 113) rfl ?_); (try (rw [drewN_self wr]; generalize hq_ : World.drewN wr _ = wr; have n0_ := Aside0.mk (Kd.R_at hq_ HO_9.out); have n1_ := Aside0.mk (Kd.R_at hq_ HO_14.out); have n2_ := Aside0.mk (blk_at hq_ BK206.out); have n3_ := Aside0.mk (below_at hq_ HB.out); clear hq_ HO_9 HO_14 BK206 HB; have HO_9 := n0_; have HO_14 := n1_; have BK206 := n2_; have HB := n3_; clear n0_ n1_ n2_ n3_; (try (have HP62 := Kd.R_putg HO_9.out (x15_3 : Int) true)))); refine store_event (t := 4) (p := 113) (v := ?vo_w63) (w1 := (wr.setCell ⟨go60, (x15_3 : Int).toNat, none⟩ (.bool true))) ?hg ?ho ?hn ?hr ?_; (case ho => rfl); (case hg => rfl); (case hn => rfl); (case hr => first | (go_simp; done) | (go_simp; rfl)); intro w63 hw; have hg : wr.grownBy w63 (some go60) := (by rw [hw]; exact HP62.2); have hp_ : Kd.R Kd.bool 4 w63 w.heap.size (fun k_ => some k_ ≠ (v223 : Value).ownBlock) (.slice (some ⟨go60, 0, none⟩) x9_3.length co61) y226 := (by rw [hw, Ny226.out]; exact HP62.1); clear HP62; have n0_ := Aside0.mk (hp_); have n1_ := Aside0.mk (Kd.R_after (v := (.slice (some ⟨go60, 0, none⟩) x9_3.length co61)) (v1 := (.slice (some ⟨go60, 0, none⟩) x9_3.length co61)) (ok := (fun _ => True)) (by (with_reducible repeat (first | apply Kd.R_alloc | apply Kd.R_drewN | apply Kd.R_drew)); exact Kd.R_mono HO_14.out (fun _ hk => ⟨trivial, hk⟩)) hg (.inl rfl)); have n2_ := Aside0.mk (blk_grown (g := gb206) (o := .cells #[.int .i64 ((rd_T49 l0 a1).f0), .string ((rd_T49 l0 a1).f1), .slice (some ad221) ((rd_T49 l0 a1).f2).length c205_2, .int .i64 ((rd_T49 l0 a1).f3)] 49 (0, 0)) (by refine blk_up ?_; exact BK206.out) hg (Kd.R_ne HO_9.out BK206.out (by decide))); have n3_ := Aside0.mk ((by rw [hw]; exact below_set (HB.out) GB60.out : Below w.heap.size w w63)); clear HO_9; clear HO_14; clear BK206; clear HB; have HO_9 := n0_; have HO_14 := n1_; have BK206 := n2_; have HB := n3_; clear n0_ n1_ n2_ n3_; clear hg hw hp_))
                                      go_roundg k3
                                      case measure => have := HJ8.out; have := HK2.out; have := HK3.out; omega
                                      case rel => exact ⟨(y226), (wrap64 (x15_3 + 1)), (by first | rfl | (simp; done) | (simp [*]; done)), H', ⟨by have := HJ8.out; have := HK2.out; have := HK3.out; omega⟩, ⟨by (with_reducible repeat (first | apply Kd.R_alloc | apply Kd.R_drewN | apply Kd.R_drew)); exact HO_9.out⟩, ⟨by (with_reducible repeat (first | apply Kd.R_alloc | apply Kd.R_drewN | apply Kd.R_drew)); exact Kd.R_mono HO_14.out (fun _ hk => hk.2)⟩, ⟨by refine blk_up ?_; exact BK206.out⟩, ⟨by repeat (first | (with_reducible first | exact HB.out | apply below_alloc | apply pw_below_drewN | apply below_drew1 | refine below_set ?_ GE206.out) | exact HB.out)⟩⟩
                                    · replace c59 := Bool.eq_false_iff.mpr c59
                                      subst c59
                                      have H1 : (if x15_3 < (t222.length : Int) then (l8OnceG.l3 E_ k3 l0 l2 l3 (x9_3.set (x15_3 : Int).toNat (rdOf false t222 x15_3)) x13_2 t222 (wrap64 (x15_3 + 1)) ((rd_T49 l0 a1).f0) ((rd_T49 l0 a1).f1) ((rd_T49 l0 a1).f2) ((rd_T49 l0 a1).f3)) else (none)) = some r := by rw [if_neg (show ¬ (false = true) by decide)] at H; exact H
                                      clear H
                                      have H := H1
                                      clear H1
                                      by_cases c64 : x15_3 < (t222.length : Int)
                                      · rw [if_pos c64] at H
                                        have c64b0 : decide (x15_3 < (t222.length : Int)) = true := decide_eq_true c64
                                        clear c64
                                        obtain ⟨y228, hy228⟩ : ∃ y_ : List Bool, y_ = (x9_3.set (x15_3 : Int).toNat (rdOf false t222 x15_3)) := ⟨_, rfl⟩
                                        replace H : (l8OnceG.l3 E_ k3 l0 l2 l3 y228 x13_2 t222 (wrap64 (x15_3 + 1)) ((rd_T49 l0 a1).f0) ((rd_T49 l0 a1).f1) ((rd_T49 l0 a1).f2) ((rd_T49 l0 a1).f3)) = some r := by first | (rw [hy228]; with_reducible exact H) | (have H2_ := (Option.bind_some _ _).symm.trans H; rw [hy228]; with_reducible exact H2_) | (have H2_ := (Option.bind_some _ _).symm.trans H; with_reducible exact H2_) | with_reducible exact H | (rw [hy228]; exact H) | exact H
                                        have Ny228 := Aside0.mk hy228
                                        clear hy228
                                        have H' := Aside0.mk H
                                        clear H
                                        obtain ⟨Ao66, co66, eo66⟩ := Kd.R_slice HO_9.out
                                        subst eo66
                                        have p225 : 0 ≤ (x15_3 : Int) := of_decide_eq_true (by first | (with_reducible assumption) | assumption)
                                        have q225 : x15_3 < (x9_3.length : Int) := of_decide_eq_true (by first | (with_reducible assumption) | assumption)
                                        obtain ⟨ad225, e225, hx225_0⟩ := Kd.at_bool (Kd.R_reads' HO_9.out).2.2 x15_3 p225 q225
                                        (try rw [← Nbq58.out] at hx225_0)
                                        cases e225
                                        replace p225 := eq_true p225
                                        replace q225 := eq_true q225
                                        obtain ⟨Ao67, co67, eo67⟩ := Kd.R_slice HO_14.out
                                        subst eo67
                                        have p227 : 0 ≤ (x15_3 : Int) := of_decide_eq_true (by first | (with_reducible assumption) | assumption)
                                        have q227 : x15_3 < (t222.length : Int) := of_decide_eq_true (by first | (with_reducible assumption) | assumption)
                                        obtain ⟨ad227, e227, hx227_0⟩ := Kd.at_bool (Kd.R_reads' HO_14.out).2.2 x15_3 p227 q227
                                        (try rw [← Nbq58.out] at hx227_0)
                                        cases e227
                                        replace p227 := eq_true p227
                                        replace q227 := eq_true q227
                                        have p65 : 0 ≤ (x15_3 : Int) := of_decide_eq_true (by first | (with_reducible assumption) | assumption)
                                        have q65 : (x15_3 : Int) < ((x9_3.length : Int) : Int) := of_decide_eq_true (by first | (with_reducible assumption) | assumption)
                                        obtain ⟨go65, co65, eo65, gb65, gl65, cl65, HG65⟩ := Kd.R_form HO_9.out (by omega)
                                        (first | cases eo65 | (injection eo65 with ea_ en_ ec_; (first | subst ea_ | (injection ea_ with ea_; subst ea_)); subst ec_; clear en_))
                                        have GB65 := Aside0.mk gb65
                                        have GG65 := Aside0.mk HG65
                                        clear gb65 gl65 HG65
                                        (first | simp only [add_plain] at hx225_0 | skip)
                                        obtain ⟨hx65_0, hf65_0⟩ := Kd.R_celln false HO_9.out (x15_3 : Int) p65 q65
                                        replace p65 := eq_true p65
                                        replace q65 := eq_true q65
                                        have HP68 := Kd.R_putg HO_9.out (x15_3 : Int) (rdOf false t222 x15_3)
                                        go_wp2_with (first | ((with_reducible refine gate_store (t := 4) (p := 113) rfl ?_); (try (rw [drewN_self wr]; generalize hq_ : World.drewN wr _ = wr; have n0_ := Aside0.mk (Kd.R_at hq_ HO_9.out); have n1_ := Aside0.mk (Kd.R_at hq_ HO_14.out); have n2_ := Aside0.mk (blk_at hq_ BK206.out); have n3_ := Aside0.mk (below_at hq_ HB.out); clear hq_ HO_9 HO_14 BK206 HB; have HO_9 := n0_; have HO_14 := n1_; have BK206 := n2_; have HB := n3_; clear n0_ n1_ n2_ n3_; (try (have HP68 := Kd.R_putg HO_9.out (x15_3 : Int) (rdOf false t222 x15_3))))); refine store_event (t := 4) (p := 113) (v := ?vo_w69) (w1 := (wr.setCell ⟨go65, (x15_3 : Int).toNat, none⟩ (.bool (rdOf false t222 x15_3)))) ?hg ?ho ?hn ?hr ?_; (case ho => rfl); (case hg => rfl); (case hn => rfl); (case hr => first | (go_simp; done) | (go_simp; rfl)); intro w69 hw; have hg : wr.grownBy w69 (some go65) := (by rw [hw]; exact HP68.2); have hp_ : Kd.R Kd.bool 4 w69 w.heap.size (fun k_ => some k_ ≠ (.slice (some ad227) t222.length co67 : Value).ownBlock) (.slice (some ⟨go65, 0, none⟩) x9_3.length co66) y228 := (by rw [hw, Ny228.out]; exact HP68.1); clear HP68; have n0_ := Aside0.mk (hp_); have n1_ := Aside0.mk (Kd.R_after (v := (.slice (some ⟨go65, 0, none⟩) x9_3.length co66)) (v1 := (.slice (some ⟨go65, 0, none⟩) x9_3.length co66)) (ok := (fun _ => True)) (by (with_reducible repeat (first | apply Kd.R_alloc | apply Kd.R_drewN | apply Kd.R_drew)); exact Kd.R_mono HO_14.out (fun _ hk => ⟨trivial, hk⟩)) hg (.inl rfl)); have n2_ := Aside0.mk (blk_grown (g := gb206) (o := .cells #[.int .i64 ((rd_T49 l0 a1).f0), .string ((rd_T49 l0 a1).f1), .slice (some ad221) ((rd_T49 l0 a1).f2).length c205_2, .int .i64 ((rd_T49 l0 a1).f3)] 49 (0, 0)) (by refine blk_up ?_; exact BK206.out) hg (Kd.R_ne HO_9.out BK206.out (by decide))); have n3_ := Aside0.mk ((by rw [hw]; exact below_set (HB.out) GB65.out : Below w.heap.size w w69)); clear HO_9; clear HO_14; clear BK206; clear HB; have HO_9 := n0_; have HO_14 := n1_; have BK206 := n2_; have HB := n3_; clear n0_ n1_ n2_ n3_; clear hg hw hp_))
                                        go_roundg k3
                                        case measure => have := HJ8.out; have := HK2.out; have := HK3.out; omega
                                        case rel => exact ⟨(y228), (wrap64 (x15_3 + 1)), (by first | rfl | (simp; done) | (simp [*]; done)), H', ⟨by have := HJ8.out; have := HK2.out; have := HK3.out; omega⟩, ⟨by (with_reducible repeat (first | apply Kd.R_alloc | apply Kd.R_drewN | apply Kd.R_drew)); exact HO_9.out⟩, ⟨by (with_reducible repeat (first | apply Kd.R_alloc | apply Kd.R_drewN | apply Kd.R_drew)); exact Kd.R_mono HO_14.out (fun _ hk => hk.2)⟩, ⟨by refine blk_up ?_; exact BK206.out⟩, ⟨by repeat (first | (with_reducible first | exact HB.out | apply below_alloc | apply pw_below_drewN | apply below_drew1 | refine below_set ?_ GE206.out) | exact HB.out)⟩⟩
                                      · rw [if_neg c64] at H
                                        exact absurd H (by simp)
                                  · rw [if_neg c57] at H
                                    exact absurd H (by simp)
                                · rw [if_neg c56] at H
                                  have c56b0 : decide (x15_3 < (x9_3.length : Int)) = false := decide_eq_false c56
                                  clear c56
                                  have H' := Aside0.mk H
                                  clear H
                                  obtain ⟨Ao70, co70, eo70⟩ := Kd.R_slice HO_9.out
                                  subst eo70
                                  go_wp2
                                  go_roundg k3
                                  case measure => have := HJ8.out; have := HK2.out; have := HK3.out; omega
                                  case rel => exact ⟨(x9_3), (wrap64 (x13_2 + 1)), (by first | rfl | (simp; done) | (simp [*]; done)), H', ⟨by have := HJ8.out; have := HK2.out; have := HK3.out; omega⟩, ⟨by (with_reducible repeat (first | apply Kd.R_alloc | apply Kd.R_drewN | apply Kd.R_drew)); exact Kd.R_mono HO_9.out (fun _ hk => trivial)⟩, ⟨by refine blk_up ?_; exact BK206.out⟩, ⟨by repeat (first | (with_reducible first | exact HB.out | apply below_alloc | apply pw_below_drewN | apply below_drew1 | refine below_set ?_ GE206.out) | exact HB.out)⟩⟩
                          · rw [if_neg c52] at H
                            exact absurd H (by simp)
                        · rw [if_neg c51] at H
                          have c51b0 : decide (x13_2 < (((rd_T49 l0 a1).f2).length : Int)) = false := decide_eq_false c51
                          clear c51
                          obtain rfl := Option.some.inj H
                          have hcz71_0 : wr.cell? ⟨gb206, 0, none⟩ = some (.int .i64 ((rd_T49 l0 a1).f0)) := (blk_cell BK206.out 0).trans rfl
                          have hcz71_1 : wr.cell? ⟨gb206, 1, none⟩ = some (.string ((rd_T49 l0 a1).f1)) := (blk_cell BK206.out 1).trans rfl
                          have hcz71_2 : wr.cell? ⟨gb206, 2, none⟩ = some (.slice A205_2 ((rd_T49 l0 a1).f2).length c205_2) := (blk_cell BK206.out 2).trans rfl
                          have hcz71_3 : wr.cell? ⟨gb206, 3, none⟩ = some (.int .i64 ((rd_T49 l0 a1).f3)) := (blk_cell BK206.out 3).trans rfl
                          have hfz71_0 := blk_frozen BK206.out 0
                          have hfz71_1 := blk_frozen BK206.out 1
                          have hfz71_2 := blk_frozen BK206.out 2
                          have hfz71_3 := blk_frozen BK206.out 3
                          go_wp2
                          go_ret
                          exact ⟨_, by first | rfl | (simp [errW_none, errW_some] <;> rfl) | (simp [*, errW_none, errW_some] <;> rfl), by (with_reducible repeat (first | apply Kd.R_alloc | apply Kd.R_drewN | apply Kd.R_drew)); exact HO_9.out, by repeat (first | (with_reducible first | exact HB.out | apply below_alloc | apply pw_below_drewN | apply below_drew1 | refine below_set ?_ GE206.out) | exact HB.out)⟩
                  · rw [if_neg c50] at H
                    have c50b0 : (((rd_T49 l0 a1).f0) == 3) = false := beq_eq_false_iff_ne.mpr c50
                    have c50b1 : (((rd_T49 l0 a1).f0) != 3) = true := bne_iff_ne.mpr c50
                    obtain rfl := Option.some.inj H
                    go_wp2
                    go_ret
                    exact ⟨_, by first | rfl | (simp [errW_none, errW_some] <;> rfl) | (simp [*, errW_none, errW_some] <;> rfl), by (with_reducible repeat (first | apply Kd.R_alloc | apply Kd.R_drewN | apply Kd.R_drew)); exact HO_9.out, by repeat (first | (with_reducible first | exact HB.out | apply below_alloc | apply pw_below_drewN | apply below_drew1 | refine below_set ?_ GE206.out) | exact HB.out)⟩
        · rw [if_neg c8] at H
          exact absurd H (by simp)
      · rw [if_neg c7] at H
        exact absurd H (by simp)
    · rw [if_neg c6] at H
      exact absurd H (by simp)
  · rw [if_neg c5] at H
    exact absurd H (by simp)

end Go.Proofs.Ytejkkdjfiebmfaa.L
