/- Words and contracts for the row RowFnExactFieldOf: what the Go functions answer that it calls; printed by programs of the kit and of this session, and merged. -/
import Derived.Test.YtpmjpbaeecnpiaaGreatDoorQf2
namespace Go.Proofs.YtpmjpbaeecnpiaaGreatDoor.L
open Go.RowKit Go.Proofs.YtpmjpbaeecnpiaaGreatDoorW.PrintWords Go.Proofs.YtpmjpbaeecnpiaaGreatDoorW.PrintLast Go.Proofs.YtpmjpbaeecnpiaaGreatDoorW.PrintMore
attribute [local go_sem] max2_int min2_int max_two min_two max_three min_three max_four min_four
set_option linter.unusedVariables false
set_option linter.unusedSimpArgs false

/-! ### spec_l2Attrs: function 88 -/
mutual
def spec_l2Attrs.l0 : Nat → List (S67) → Int → Option (Bool)
 | 0, _, _ => none
 | k + 1, x0, x3 => if x3 < (x0.length : Int) then (if 0 ≤ x3 then ((spec_l1Qual.f k ((rd_T67 x0 x3).f0)).bind fun t141 => (if t141 = true then ((spec_l1Text.f k ((rd_T67 x0 x3).f1)).bind fun t143 => (spec_l2Attrs.j1 k x0 x3 (!t143))) else (spec_l2Attrs.j1 k x0 x3 true))) else (none)) else (some true)
def spec_l2Attrs.j1 : Nat → List (S67) → Int → Bool → Option (Bool)
 | 0, _, _, _ => none
 | k + 1, x0, x3, x29 => if x29 = true then (some false) else (spec_l2Attrs.l1 k x0 x3 0)
def spec_l2Attrs.l1 : Nat → List (S67) → Int → Int → Option (Bool)
 | 0, _, _, _ => none
 | k + 1, x0, x3, x4 => if x4 < x3 then (if 0 ≤ x4 then (if x4 < (x0.length : Int) then (if 0 ≤ x3 then (if x3 < (x0.length : Int) then (if ((rd_T67 x0 x4).f0).toList = ((rd_T67 x0 x3).f0).toList then (some false) else (spec_l2Attrs.l1 k x0 x3 (wrap64 (x4 + 1)))) else (none)) else (none)) else (none)) else (none)) else (spec_l2Attrs.l0 k x0 (wrap64 (x3 + 1)))
end
def spec_l2Attrs.f (k : Nat) (l0 : List (S67)) : Option (Bool) := if (l0.length : Int) > 10 then (some false) else (spec_l2Attrs.l0 k l0 0)
set_option maxHeartbeats 8000000 in
set_option maxRecDepth 100000 in
theorem spec_l2Attrs.calls (k : Nat) (A0 : Option Addr) (c0 : Nat) (l0 : List (S67)) (r : Bool) (w : World) (hr0 : Kd.C k67 w A0 l0.length l0) (hc0 : l0.length ≤ c0) (h : spec_l2Attrs.f k l0 = some r) :
  Calls Tryz.prog 88 #[.slice A0 l0.length c0] w fun e w' => e = .returned (.bool r) ∧ Below w.heap.size w w' := by
 have HR0 := Aside0.mk hr0
 have HC0 := Aside0.mk hc0
 clear hr0 hc0
 have HB := Aside0.mk (Below.refl w.heap.size w)
 have H : (if (l0.length : Int) > 10 then (some false) else (spec_l2Attrs.l0 k l0 0)) = some r := h
 clear h
 by_cases c2 : (l0.length : Int) > 10
 ·rw [if_pos c2] at H
  have c2b0 : decide (10 < (l0.length : Int)) = true := decide_eq_true c2
  have c2b1 : decide (10 < l0.length) = true := decide_eq_true dq20
  clear c2
  obtain rfl := Option.some.inj H
  go_enter Tryz.func88, Tryz.ntmps88
  go_wp2
  go_ret
  exact ⟨dq11, dq9⟩
 rw [if_neg c2] at H
 have c2b0 : decide (10 < (l0.length : Int)) = false := decide_eq_false c2
 have c2b1 : decide (10 < l0.length) = false := decide_eq_false dq20
 clear c2
 have H' := Aside0.mk H
 clear H
 go_enter Tryz.func88, Tryz.ntmps88
 go_wp2
 go_loopg [3] k (fun kq v3 w' => ∃ (x3_1 : Int), v3 = .int .i64 x3_1 ∧ Aside0 (spec_l2Attrs.l0 kq l0 x3_1 = some r) ∧ Aside0 (kq ≤ k) ∧ Aside0 (Below w.heap.size w w'))
 case atStart => exact ⟨(0), dq12, H', ⟨Nat.le_refl _⟩, ⟨dq9⟩⟩
 clear H'
 try clear c2b0
 try clear c2b1
 obtain ⟨x3_1, rfl, HA, HK1, HB⟩ := hrel
 cases gk with
 | zero => exact absurd HA.out (by simp [spec_l2Attrs.l0])
 | succ k1 =>
  have H := HA.out
  clear HA
  simp only [spec_l2Attrs.l0] at H
  by_cases c3 : x3_1 < (l0.length : Int)
  rotate_left
  ·rw [if_neg c3] at H
   have c3b0 := decide_eq_false c3
   clear c3
   obtain rfl := Option.some.inj H
   go_wp2
   go_ret
   exact ⟨dq11, dq9⟩
  rw [if_pos c3] at H
  have c3b0 := decide_eq_true c3
  clear c3
  have HC4 := Aside0.mk H
  clear H
  go_upto_region 6 with (fail)
  go_cut [29] (fun v29 wc => ∃ (kq : Nat) (x29_3 : Bool), v29 = .bool x29_3 ∧ Aside0 (spec_l2Attrs.j1 kq l0 x3_1 x29_3 = some r) ∧ Aside0 (kq ≤ k1) ∧ Aside0 (Below w.heap.size w wc))
  case first =>
   have H := HC4.out
   clear HC4
   by_cases c5 : 0 ≤ x3_1
   rotate_left
   ·rw [if_neg c5] at H
    exact absurd H dq17
   rw [if_pos c5] at H
   have c5b0 := decide_eq_true c5
   clear c5
   (first | rw [c5b0] | (simp only [i64_w, i32_w]; rw [c5b0]) | skip)
   replace H := Option.bind_eq_some_iff.mp H
   obtain ⟨t141, A60, H⟩ := H
   replace H : (if t141 = true then ((spec_l1Text.f k1 ((rd_T67 l0 x3_1).f1)).bind fun t143 => (spec_l2Attrs.j1 k1 l0 x3_1 (!t143))) else (spec_l2Attrs.j1 k1 l0 x3_1 true)) = some r := H
   have A6 := Aside0.mk A60
   clear A60
   by_cases c7 : t141 = true
   rotate_left
   ·replace c7 := Bool.eq_false_iff.mpr c7
    subst c7
    have H1 : (spec_l2Attrs.j1 k1 l0 x3_1 true) = some r := by rw [if_neg (show ¬ (false = true) by decide)] at H; exact H
    clear H
    have H := H1
    clear H1
    have H' := Aside0.mk H
    clear H
    have p140 : 0 ≤ (x3_1 : Int) := of_decide_eq_true dq13
    have q140 : x3_1 < (l0.length : Int) := of_decide_eq_true dq13
    obtain ⟨ad140, e140, hx140_0, hx140_1⟩ := at_T67 HR0.out x3_1 p140 q140
    cases e140
    replace hx140_0 := (HB.out.cell (World.block_lt_of_cell? w _ hx140_0)).trans hx140_0
    replace hx140_1 := (HB.out.cell (World.block_lt_of_cell? w _ hx140_1)).trans hx140_1
    replace p140 := eq_true p140
    replace q140 := eq_true q140
    go_wp2_with (first | (go_at_call 87; (with_reducible refine (spec_l1Qual.calls k1 ((rd_T67 l0 x3_1).f0) false _ A6.out).mono ?_); rintro e w' ⟨rfl, ⟨nd, rfl⟩⟩; (try first | exact ⟨rfl, _, World.drewN_drewN _ _ _⟩ | exact ⟨rfl, _, Eq.trans (World.drewN_drewN _ _ _) (congrArg (World.drewN _) (Nat.add_assoc _ _ _))⟩)))
    go_meet
    case rel => exact ⟨_, (true), dq12, H', ⟨dq26⟩, ⟨dq9⟩⟩
   subst c7
   have H1 : ((spec_l1Text.f k1 ((rd_T67 l0 x3_1).f1)).bind fun t143 => (spec_l2Attrs.j1 k1 l0 x3_1 (!t143))) = some r := by rw [if_pos rfl] at H; exact H
   clear H
   have H := H1
   clear H1
   replace H := Option.bind_eq_some_iff.mp H
   obtain ⟨t143, A80, H⟩ := H
   replace H : (spec_l2Attrs.j1 k1 l0 x3_1 (!t143)) = some r := H
   have A8 := Aside0.mk A80
   clear A80
   have H' := Aside0.mk H
   clear H
   have p140 : 0 ≤ (x3_1 : Int) := of_decide_eq_true dq13
   have q140 : x3_1 < (l0.length : Int) := of_decide_eq_true dq13
   obtain ⟨ad140, e140, hx140_0, hx140_1⟩ := at_T67 HR0.out x3_1 p140 q140
   cases e140
   replace hx140_0 := (HB.out.cell (World.block_lt_of_cell? w _ hx140_0)).trans hx140_0
   replace hx140_1 := (HB.out.cell (World.block_lt_of_cell? w _ hx140_1)).trans hx140_1
   replace p140 := eq_true p140
   replace q140 := eq_true q140
   go_wp2_with (first | (go_at_call 87; (with_reducible refine (spec_l1Qual.calls k1 ((rd_T67 l0 x3_1).f0) true _ A6.out).mono ?_); rintro e w' ⟨rfl, ⟨nd, rfl⟩⟩; (try first | exact ⟨rfl, _, World.drewN_drewN _ _ _⟩ | exact ⟨rfl, _, Eq.trans (World.drewN_drewN _ _ _) (congrArg (World.drewN _) (Nat.add_assoc _ _ _))⟩); have p142 : 0 ≤ (x3_1 : Int) := of_decide_eq_true dq13; have q142 : x3_1 < (l0.length : Int) := of_decide_eq_true dq13; obtain ⟨ad142, e142, hx142_0, hx142_1⟩ := at_T67 HR0.out x3_1 p142 q142; obtain rfl : ad140 = ad142 := (by injection e142); replace hx142_0 := (HB.out.cell (World.block_lt_of_cell? w _ hx142_0)).trans hx142_0; replace hx142_1 := (HB.out.cell (World.block_lt_of_cell? w _ hx142_1)).trans hx142_1; replace p142 := eq_true p142; replace q142 := eq_true q142) | (go_at_call 86; (with_reducible refine (spec_l1Text.calls k1 ((rd_T67 l0 x3_1).f1) t143 _ A8.out).mono ?_); rintro e w9 ⟨rfl, hb⟩; have n0_ := Aside0.mk (below_step dq9 hb); clear HB; have HB := n0_; clear n0_; (try clear hb); (try clear hb2); (try clear hk); (try clear hi)))
   go_meet
   case rel => exact ⟨_, (!t143), dq12, H', ⟨dq26⟩, ⟨dq9⟩⟩
  clear HC4
  try clear c3b0
  obtain ⟨kq, x29_3, rfl, HA, HJ3, HB⟩ := hcut
  cases kq with
  | zero => exact absurd HA.out (by simp [spec_l2Attrs.j1])
  | succ kj3 =>
   have H := HA.out
   clear HA
   simp only [spec_l2Attrs.j1] at H
   by_cases c10 : x29_3 = true
   ·subst c10
    have H1 : (some false) = some r := by rw [if_pos rfl] at H; exact H
    clear H
    have H := H1
    clear H1
    obtain rfl := Option.some.inj H
    go_wp2
    go_ret
    exact ⟨dq11, dq9⟩
   replace c10 := Bool.eq_false_iff.mpr c10
   subst c10
   have H1 : (spec_l2Attrs.l1 kj3 l0 x3_1 0) = some r := by rw [if_neg (show ¬ (false = true) by decide)] at H; exact H
   clear H
   have H := H1
   clear H1
   have H' := Aside0.mk H
   clear H
   go_wp2
   go_loopg [4] kj3 (fun kq v4 w' => ∃ (x4_3 : Int), v4 = .int .i64 x4_3 ∧ Aside0 (spec_l2Attrs.l1 kq l0 x3_1 x4_3 = some r) ∧ Aside0 (kq ≤ kj3) ∧ Aside0 (Below w.heap.size w w'))
   case atStart => exact ⟨(0), dq12, H', ⟨Nat.le_refl _⟩, ⟨dq9⟩⟩
   clear H'
   obtain ⟨x4_3, rfl, HA, HK3, HB⟩ := hrel
   cases gk with
   | zero => exact absurd HA.out (by simp [spec_l2Attrs.l1])
   | succ k3 =>
    have H := HA.out
    clear HA
    simp only [spec_l2Attrs.l1] at H
    by_cases c11 : x4_3 < x3_1
    rotate_left
    ·rw [if_neg c11] at H
     have c11b0 := decide_eq_false c11
     clear c11
     have H' := Aside0.mk H
     clear H
     go_wp2
     go_roundg k3
     case measure => have := HK1.out; have := HJ3.out; have := HK3.out; omega
     case rel => exact ⟨(wrap64 (x3_1 + 1)), dq12, H', ⟨by have := HK1.out; have := HJ3.out; have := HK3.out; omega⟩, ⟨dq9⟩⟩
    rw [if_pos c11] at H
    have c11b0 := decide_eq_true c11
    clear c11
    by_cases c12 : 0 ≤ x4_3
    rotate_left
    ·rw [if_neg c12] at H
     exact absurd H dq17
    rw [if_pos c12] at H
    have c12b0 := decide_eq_true c12
    clear c12
    by_cases c13 : x4_3 < (l0.length : Int)
    rotate_left
    ·rw [if_neg c13] at H
     exact absurd H dq17
    rw [if_pos c13] at H
    have c13b0 := decide_eq_true c13
    clear c13
    by_cases c14 : 0 ≤ x3_1
    rotate_left
    ·rw [if_neg c14] at H
     exact absurd H dq17
    rw [if_pos c14] at H
    have c14b0 := decide_eq_true c14
    clear c14
    by_cases c15 : x3_1 < (l0.length : Int)
    rotate_left
    ·rw [if_neg c15] at H
     exact absurd H dq17
    rw [if_pos c15] at H
    have c15b0 := decide_eq_true c15
    clear c15
    by_cases c16 : ((rd_T67 l0 x4_3).f0).toList = ((rd_T67 l0 x3_1).f0).toList
    ·rw [if_pos c16] at H
     have c16b0 := beq_iff_eq.mpr c16
     have c16b1 := bne_eq_false_iff_eq.mpr c16
     clear c16
     obtain rfl := Option.some.inj H
     have p144 : 0 ≤ (x4_3 : Int) := of_decide_eq_true dq13
     have q144 : x4_3 < (l0.length : Int) := of_decide_eq_true dq13
     obtain ⟨ad144, e144, hx144_0, hx144_1⟩ := at_T67 HR0.out x4_3 p144 q144
     cases e144
     replace hx144_0 := (HB.out.cell (World.block_lt_of_cell? w _ hx144_0)).trans hx144_0
     replace hx144_1 := (HB.out.cell (World.block_lt_of_cell? w _ hx144_1)).trans hx144_1
     replace p144 := eq_true p144
     replace q144 := eq_true q144
     have p145 : 0 ≤ (x3_1 : Int) := of_decide_eq_true dq13
     have q145 : x3_1 < (l0.length : Int) := of_decide_eq_true dq13
     obtain ⟨ad145, e145, hx145_0, hx145_1⟩ := at_T67 HR0.out x3_1 p145 q145
     obtain rfl : ad144 = ad145 := (by injection e145)
     replace hx145_0 := (HB.out.cell (World.block_lt_of_cell? w _ hx145_0)).trans hx145_0
     replace hx145_1 := (HB.out.cell (World.block_lt_of_cell? w _ hx145_1)).trans hx145_1
     replace p145 := eq_true p145
     replace q145 := eq_true q145
     go_wp2
     repeat (go_quiet (fail); try go_wp2)
     go_ret
     exact ⟨dq11, dq9⟩
    rw [if_neg c16] at H
    have c16b0 := beq_eq_false_iff_ne.mpr c16
    have c16b1 := bne_iff_ne.mpr c16
    have H' := Aside0.mk H
    clear H
    have p144 : 0 ≤ (x4_3 : Int) := of_decide_eq_true dq13
    have q144 : x4_3 < (l0.length : Int) := of_decide_eq_true dq13
    obtain ⟨ad144, e144, hx144_0, hx144_1⟩ := at_T67 HR0.out x4_3 p144 q144
    cases e144
    replace hx144_0 := (HB.out.cell (World.block_lt_of_cell? w _ hx144_0)).trans hx144_0
    replace hx144_1 := (HB.out.cell (World.block_lt_of_cell? w _ hx144_1)).trans hx144_1
    replace p144 := eq_true p144
    replace q144 := eq_true q144
    have p145 : 0 ≤ (x3_1 : Int) := of_decide_eq_true dq13
    have q145 : x3_1 < (l0.length : Int) := of_decide_eq_true dq13
    obtain ⟨ad145, e145, hx145_0, hx145_1⟩ := at_T67 HR0.out x3_1 p145 q145
    obtain rfl : ad144 = ad145 := (by injection e145)
    replace hx145_0 := (HB.out.cell (World.block_lt_of_cell? w _ hx145_0)).trans hx145_0
    replace hx145_1 := (HB.out.cell (World.block_lt_of_cell? w _ hx145_1)).trans hx145_1
    replace p145 := eq_true p145
    replace q145 := eq_true q145
    go_wp2
    repeat (go_quiet (fail); try go_wp2)
    go_roundg k3
    case measure => have := HK1.out; have := HJ3.out; have := HK3.out; omega
    case rel => exact ⟨(wrap64 (x4_3 + 1)), dq12, H', ⟨by have := HK1.out; have := HJ3.out; have := HK3.out; omega⟩, ⟨dq9⟩⟩

/-! ### spec_DocOk: function 43 -/
mutual
def spec_DocOk.j0 : Nat → List (S65) → Bool → Option (Bool)
 | 0, _, _ => none
 | k + 1, x0, x15 => if x15 = true then (some false) else (spec_DocOk.l0 k x0 0 0)
def spec_DocOk.l0 : Nat → List (S65) → Int → Int → Option (Bool)
 | 0, _, _, _ => none
 | k + 1, x0, x3, x4 => if x4 < (x0.length : Int) then (if 0 ≤ x4 then (spec_DocOk.l1 k x0 (wrap64 ((wrap64 (x3 + (((rd_T65 x0 x4).f1).size : Int))) + (((rd_T65 x0 x4).f2).size : Int))) x4 0 ((rd_T65 x0 x4).f0) ((rd_T65 x0 x4).f1) ((rd_T65 x0 x4).f2) ((rd_T65 x0 x4).f3)) else (none)) else (some true)
def spec_DocOk.j3 : Nat → List (S65) → Int → Int → Int → ByteArray → ByteArray → List (S67) → Option (Bool)
 | 0, _, _, _, _, _, _, _ => none
 | k + 1, x0, x3, x4, x148000, x148001, x148002, x148003 => if x3 > 2500 then (some false) else (if x4 = 0 then (if x148000 = (-1) then (if x148001.toList = ([] : List UInt8) then (some false) else (spec_DocOk.j4 k x0 x3 x4 x148000 x148001 x148002 x148003)) else (some false)) else ((spec_l1In.f x148000 0 (wrap64 (x4 - 1))).bind fun t150 => (if t150 = true then (if 0 ≤ x148000 then (if x148000 < (x0.length : Int) then (if ((rd_T65 x0 x148000).f1).toList = ([] : List UInt8) then (some false) else (spec_DocOk.j4 k x0 x3 x4 x148000 x148001 x148002 x148003)) else (none)) else (none)) else (some false))))
def spec_DocOk.j4 : Nat → List (S65) → Int → Int → Int → ByteArray → ByteArray → List (S67) → Option (Bool)
 | 0, _, _, _, _, _, _, _ => none
 | k + 1, x0, x3, x4, x148000, x148001, x148002, x148003 => if x4 > 0 then (spec_DocOk.l2 k x0 x3 x4 (wrap64 (x4 - 1)) x148000 x148001 x148002 x148003) else (spec_DocOk.j6 k x0 x3 x4 x148000 x148001 x148002 x148003)
def spec_DocOk.j6 : Nat → List (S65) → Int → Int → Int → ByteArray → ByteArray → List (S67) → Option (Bool)
 | 0, _, _, _, _, _, _, _ => none
 | k + 1, x0, x3, x4, x148000, x148001, x148002, x148003 => (spec_l2Deep.f k x0 x4).bind fun t153 => (if t153 ≥ 20 then (some false) else (if x148001.toList = ([] : List UInt8) then (if x148002.toList = ([] : List UInt8) then (spec_DocOk.j7 k x0 x3 x4 true x148000 x148001 x148002 x148003) else (if (x148003.length : Int) > 0 then (spec_DocOk.j7 k x0 x3 x4 true x148000 x148001 x148002 x148003) else ((spec_l1Text.f k x148002).bind fun t154 => (spec_DocOk.j7 k x0 x3 x4 (!t154) x148000 x148001 x148002 x148003)))) else (if x148002.toList = ([] : List UInt8) then ((spec_l1Qual.f k x148001).bind fun t157 => (if t157 = true then ((spec_l2Attrs.f k x148003).bind fun t158 => (if t158 = true then (spec_DocOk.l0 k x0 x3 (wrap64 (x4 + 1))) else (some false))) else (some false))) else (some false))))
def spec_DocOk.j7 : Nat → List (S65) → Int → Int → Bool → Int → ByteArray → ByteArray → List (S67) → Option (Bool)
 | 0, _, _, _, _, _, _, _, _ => none
 | k + 1, x0, x3, x4, x130, x148000, x148001, x148002, x148003 => if x130 = true then (some false) else (if 0 ≤ (wrap64 (x4 - 1)) then (if (wrap64 (x4 - 1)) < (x0.length : Int) then (if ((rd_T65 x0 (wrap64 (x4 - 1))).f1).toList = ([] : List UInt8) then (if ((rd_T65 x0 (wrap64 (x4 - 1))).f0) = x148000 then (some false) else (spec_DocOk.l0 k x0 x3 (wrap64 (x4 + 1)))) else (spec_DocOk.l0 k x0 x3 (wrap64 (x4 + 1)))) else (none)) else (none))
def spec_DocOk.l2 : Nat → List (S65) → Int → Int → Int → Int → ByteArray → ByteArray → List (S67) → Option (Bool)
 | 0, _, _, _, _, _, _, _, _ => none
 | k + 1, x0, x3, x4, x7, x148000, x148001, x148002, x148003 => if x7 ≥ 0 then (if x7 = x148000 then (if x7 < 0 then (some false) else (spec_DocOk.j6 k x0 x3 x4 x148000 x148001 x148002 x148003)) else (if 0 ≤ x7 then (if x7 < (x0.length : Int) then (spec_DocOk.l2 k x0 x3 x4 ((rd_T65 x0 x7).f0) x148000 x148001 x148002 x148003) else (none)) else (none))) else (if x7 < 0 then (some false) else (spec_DocOk.j6 k x0 x3 x4 x148000 x148001 x148002 x148003))
def spec_DocOk.l1 : Nat → List (S65) → Int → Int → Int → Int → ByteArray → ByteArray → List (S67) → Option (Bool)
 | 0, _, _, _, _, _, _, _, _ => none
 | k + 1, x0, x3, x4, x6, x148000, x148001, x148002, x148003 => if x6 < (x148003.length : Int) then (if x6 < 20 then (if 0 ≤ x6 then (spec_DocOk.l1 k x0 (wrap64 ((wrap64 (x3 + (((rd_T67 x148003 x6).f0).size : Int))) + (((rd_T67 x148003 x6).f1).size : Int))) x4 (wrap64 (x6 + 1)) x148000 x148001 x148002 x148003) else (none)) else (spec_DocOk.j3 k x0 x3 x4 x148000 x148001 x148002 x148003)) else (spec_DocOk.j3 k x0 x3 x4 x148000 x148001 x148002 x148003)
end
def spec_DocOk.f (k : Nat) (l0 : List (S65)) : Option (Bool) := if (l0.length : Int) < 1 then (spec_DocOk.j0 k l0 true) else (spec_DocOk.j0 k l0 (decide ((l0.length : Int) > 200)))
set_option maxHeartbeats 8000000 in
set_option maxRecDepth 100000 in
theorem spec_DocOk.calls (k : Nat) (A0 : Option Addr) (c0 : Nat) (l0 : List (S65)) (r : Bool) (w : World) (hr0 : Kd.C k65 w A0 l0.length l0) (hc0 : l0.length ≤ c0) (h : spec_DocOk.f k l0 = some r) :
  Calls Tryz.prog 43 #[.slice A0 l0.length c0] w fun e w' => e = .returned (.bool r) ∧ Below w.heap.size w w' := by
 have hu65 := Tryz.underlying65
 have HR0 := Aside0.mk hr0
 have HC0 := Aside0.mk hc0
 clear hr0 hc0
 have HB := Aside0.mk (Below.refl w.heap.size w)
 have H : (if (l0.length : Int) < 1 then (spec_DocOk.j0 k l0 true) else (spec_DocOk.j0 k l0 (decide ((l0.length : Int) > 200)))) = some r := h
 clear h
 have HC2 := Aside0.mk H
 clear H
 go_enter Tryz.func43, Tryz.ntmps43
 go_upto_region 1 with (fail)
 go_cut [15] (fun v15 wc => ∃ (kq : Nat) (x15_1 : Bool), v15 = .bool x15_1 ∧ Aside0 (spec_DocOk.j0 kq l0 x15_1 = some r) ∧ Aside0 (kq ≤ k) ∧ Aside0 (Below w.heap.size w wc))
 case first =>
  have H := HC2.out
  clear HC2
  by_cases c3 : (l0.length : Int) < 1
  ·rw [if_pos c3] at H
   have c3b0 := decide_eq_true c3
   have c3b1 : decide (l0.length < 1) = true := decide_eq_true dq20
   clear c3
   (first | rw [c3b0] | (simp only [i64_w, i32_w]; rw [c3b0]) | skip)
   have H' := Aside0.mk H
   clear H
   go_wp2
   go_meet
   case rel => exact ⟨_, (true), dq12, H', ⟨dq21⟩, ⟨dq9⟩⟩
  rw [if_neg c3] at H
  have c3b0 := decide_eq_false c3
  have c3b1 : decide (l0.length < 1) = false := decide_eq_false dq20
  clear c3
  (first | rw [c3b0] | (simp only [i64_w, i32_w]; rw [c3b0]) | skip)
  have H' := Aside0.mk H
  clear H
  go_wp2
  go_meet
  case rel => exact ⟨_, (decide ((l0.length : Int) > 200)), dq12, H', ⟨dq21⟩, ⟨dq9⟩⟩
 clear HC2
 obtain ⟨kq, x15_1, rfl, HA, HJ1, HB⟩ := hcut
 cases kq with
 | zero => exact absurd HA.out (by simp [spec_DocOk.j0])
 | succ kj1 =>
  have H := HA.out
  clear HA
  simp only [spec_DocOk.j0] at H
  by_cases c4 : x15_1 = true
  ·subst c4
   have H1 : (some false) = some r := by rw [if_pos rfl] at H; exact H
   clear H
   have H := H1
   clear H1
   obtain rfl := Option.some.inj H
   go_wp2
   go_ret
   exact ⟨dq11, dq9⟩
  replace c4 := Bool.eq_false_iff.mpr c4
  subst c4
  have H1 : (spec_DocOk.l0 kj1 l0 0 0) = some r := by rw [if_neg (show ¬ (false = true) by decide)] at H; exact H
  clear H
  have H := H1
  clear H1
  have H' := Aside0.mk H
  clear H
  go_wp2
  go_loopg [3, 4] kj1 (fun kq v3 v4 w' => ∃ (x3_2 : Int) (x4_2 : Int), v3 = .int .i64 x3_2 ∧ v4 = .int .i64 x4_2 ∧ Aside0 (spec_DocOk.l0 kq l0 x3_2 x4_2 = some r) ∧ Aside0 (kq ≤ kj1) ∧ Aside0 (Below w.heap.size w w'))
  case atStart => exact ⟨(0), (0), dq12, dq12, H', ⟨Nat.le_refl _⟩, ⟨dq9⟩⟩
  clear H'
  obtain ⟨x3_2, x4_2, rfl, rfl, HA, HK2, HB⟩ := hrel
  cases gk with
  | zero => exact absurd HA.out (by simp [spec_DocOk.l0])
  | succ k2 =>
   have H := HA.out
   clear HA
   simp only [spec_DocOk.l0] at H
   by_cases c5 : x4_2 < (l0.length : Int)
   rotate_left
   ·rw [if_neg c5] at H
    have c5b0 := decide_eq_false c5
    clear c5
    obtain rfl := Option.some.inj H
    go_wp2
    go_ret
    exact ⟨dq11, dq9⟩
   rw [if_pos c5] at H
   have c5b0 := decide_eq_true c5
   clear c5
   by_cases c6 : 0 ≤ x4_2
   rotate_left
   ·rw [if_neg c6] at H
    exact absurd H dq17
   rw [if_pos c6] at H
   have c6b0 := decide_eq_true c6
   clear c6
   have HC7 := Aside0.mk H
   clear H
   have p146 : 0 ≤ (x4_2 : Int) := of_decide_eq_true dq13
   have q146 : x4_2 < (l0.length : Int) := of_decide_eq_true dq13
   obtain ⟨ad146, A146_3, c146_3, e146, hx146_0, hx146_1, hx146_2, hx146_3, hl146_3, hi146_3⟩ := at_T65 HR0.out x4_2 p146 q146
   cases e146
   replace hx146_0 := (HB.out.cell (World.block_lt_of_cell? w _ hx146_0)).trans hx146_0
   replace hx146_1 := (HB.out.cell (World.block_lt_of_cell? w _ hx146_1)).trans hx146_1
   replace hx146_2 := (HB.out.cell (World.block_lt_of_cell? w _ hx146_2)).trans hx146_2
   replace hx146_3 := (HB.out.cell (World.block_lt_of_cell? w _ hx146_3)).trans hx146_3
   have HR146_3 := Aside0.mk hi146_3
   have HC146_3 := Aside0.mk hl146_3
   clear hi146_3 hl146_3
   replace p146 := eq_true p146
   replace q146 := eq_true q146
   go_upto_block 2 with (first | ((with_reducible refine gate_dst (N := 5) rfl ?_); (try (refine gate_guard (by rfl) ?_; dsimp only)); refine box_event ?hg (N := 5) ?hd (cs := #[.int .i64 0, .string (⟨#[]⟩ : ByteArray), .string (⟨#[]⟩ : ByteArray), .slice none 0 0]) (t := 65) ?hr ?_; (case hd => rfl); (case hg => rfl); (case hr => exact dq0); intro gb147 hg w8 hbox hb; have n0_ := Aside0.mk (below_step dq9 hb); have n1_ := Aside0.mk (hbox); have n2_ := Aside0.mk ((dq8 : w.heap.size ≤ gb147)); have n3_ := Aside0.mk ((dq8 : w.heap.size ≤ gb147)); clear HB; have HB := n0_; have BK147 := n1_; have GW147 := n2_; have GE147 := n3_; clear n0_ n1_ n2_ n3_; clear hb hbox hg; obtain ⟨⟨hcz9_0, hcz9_1, hcz9_2, hcz9_3⟩, hfz9_0, hfz9_1, hfz9_2, hfz9_3⟩ := blkC4 BK147.out))
   (try simp only [Act.put, List.setIfInBounds_toArray, List.set_cons_zero, List.set_cons_succ])
   go_cut [3] (fun v3 wc => ∃ (kq : Nat) (x3_6 : Int), v3 = .int .i64 x3_6 ∧ Aside0 (spec_DocOk.j3 kq l0 x3_6 x4_2 ((rd_T65 l0 x4_2).f0) ((rd_T65 l0 x4_2).f1) ((rd_T65 l0 x4_2).f2) ((rd_T65 l0 x4_2).f3) = some r) ∧ Aside0 (kq ≤ k2) ∧ Aside0 (wc.heap[gb147]? = some (.cells #[.int .i64 ((rd_T65 l0 x4_2).f0), .string ((rd_T65 l0 x4_2).f1), .string ((rd_T65 l0 x4_2).f2), (.slice A146_3 ((rd_T65 l0 x4_2).f3).length c146_3)] 65 (0, 0))) ∧ Aside0 (Below w.heap.size w wc))
   case first =>
    have H := HC7.out
    clear HC7
    have H' := Aside0.mk H
    clear H
    go_wp2
    go_loopg [3, 6] k2 (fun kq v3 v6 w' => ∃ (x3_3 : Int) (x6_3 : Int), v3 = .int .i64 x3_3 ∧ v6 = .int .i64 x6_3 ∧ Aside0 (spec_DocOk.l1 kq l0 x3_3 x4_2 x6_3 ((rd_T65 l0 x4_2).f0) ((rd_T65 l0 x4_2).f1) ((rd_T65 l0 x4_2).f2) ((rd_T65 l0 x4_2).f3) = some r) ∧ Aside0 (kq ≤ k2) ∧ Aside0 (w'.heap[gb147]? = some (.cells #[.int .i64 ((rd_T65 l0 x4_2).f0), .string ((rd_T65 l0 x4_2).f1), .string ((rd_T65 l0 x4_2).f2), (.slice A146_3 ((rd_T65 l0 x4_2).f3).length c146_3)] 65 (0, 0))) ∧ Aside0 (Below w.heap.size w w'))
    case atStart => exact ⟨(wrap64 ((wrap64 (x3_2 + (((rd_T65 l0 x4_2).f1).size : Int))) + (((rd_T65 l0 x4_2).f2).size : Int))), (0), dq12, dq12, H', ⟨Nat.le_refl _⟩, ⟨by refine blk_up ?_; refine blk_put (cs := #[.int .i64 ((rd_T65 l0 x4_2).f0), .string ((rd_T65 l0 x4_2).f1), .string ((rd_T65 l0 x4_2).f2), .slice none 0 0]) ?_ 3 _ rfl; refine blk_up ?_; refine blk_put (cs := #[.int .i64 ((rd_T65 l0 x4_2).f0), .string ((rd_T65 l0 x4_2).f1), .string (⟨#[]⟩ : ByteArray), .slice none 0 0]) ?_ 2 _ rfl; refine blk_up ?_; refine blk_put (cs := #[.int .i64 ((rd_T65 l0 x4_2).f0), .string (⟨#[]⟩ : ByteArray), .string (⟨#[]⟩ : ByteArray), .slice none 0 0]) ?_ 1 _ rfl; refine blk_up ?_; refine blk_put (cs := #[.int .i64 0, .string (⟨#[]⟩ : ByteArray), .string (⟨#[]⟩ : ByteArray), .slice none 0 0]) ?_ 0 _ rfl; refine blk_up ?_; exact BK147.out⟩, ⟨dq27⟩⟩
    clear H'
    try clear c5b0
    try clear c6b0
    try clear hcz9_0
    try clear hcz9_1
    try clear hcz9_2
    try clear hcz9_3
    try clear hfz9_0
    try clear hfz9_1
    try clear hfz9_2
    try clear hfz9_3
    try clear hx146_0
    try clear hx146_1
    try clear hx146_2
    try clear hx146_3
    try clear p146
    try clear q146
    obtain ⟨x3_3, x6_3, rfl, rfl, HA, HK3, BK147, HB⟩ := hrel
    cases gk with
    | zero => exact absurd HA.out (by simp [spec_DocOk.l1])
    | succ k3 =>
     have H := HA.out
     clear HA
     simp only [spec_DocOk.l1] at H
     by_cases c10 : x6_3 < (((rd_T65 l0 x4_2).f3).length : Int)
     rotate_left
     ·rw [if_neg c10] at H
      have c10b0 := decide_eq_false c10
      clear c10
      (first | rw [c10b0] | (simp only [i64_w, i32_w]; rw [c10b0]) | skip)
      have H' := Aside0.mk H
      clear H
      obtain ⟨⟨hcz15_0, hcz15_1, hcz15_2, hcz15_3⟩, hfz15_0, hfz15_1, hfz15_2, hfz15_3⟩ := blkC4 BK147.out
      go_wp2
      go_meet
      case rel => exact ⟨_, (x3_3), dq12, H', ⟨dq29⟩, ⟨dq28⟩, ⟨dq27⟩⟩
     rw [if_pos c10] at H
     have c10b0 := decide_eq_true c10
     clear c10
     (first | rw [c10b0] | (simp only [i64_w, i32_w]; rw [c10b0]) | skip)
     by_cases c11 : x6_3 < 20
     rotate_left
     ·rw [if_neg c11] at H
      have c11b0 := decide_eq_false c11
      clear c11
      have H' := Aside0.mk H
      clear H
      obtain ⟨⟨hcz14_0, hcz14_1, hcz14_2, hcz14_3⟩, hfz14_0, hfz14_1, hfz14_2, hfz14_3⟩ := blkC4 BK147.out
      go_wp2
      go_meet
      case rel => exact ⟨_, (x3_3), dq12, H', ⟨dq29⟩, ⟨dq28⟩, ⟨dq27⟩⟩
     rw [if_pos c11] at H
     have c11b0 := decide_eq_true c11
     clear c11
     by_cases c12 : 0 ≤ x6_3
     rotate_left
     ·rw [if_neg c12] at H
      exact absurd H dq17
     rw [if_pos c12] at H
     have c12b0 := decide_eq_true c12
     clear c12
     have H' := Aside0.mk H
     clear H
     obtain ⟨⟨hcz13_0, hcz13_1, hcz13_2, hcz13_3⟩, hfz13_0, hfz13_1, hfz13_2, hfz13_3⟩ := blkC4 BK147.out
     have p148 : 0 ≤ (x6_3 : Int) := of_decide_eq_true dq13
     have q148 : x6_3 < (((rd_T65 l0 x4_2).f3).length : Int) := of_decide_eq_true dq13
     obtain ⟨ad148, e148, hx148_0, hx148_1⟩ := at_T67 HR146_3.out x6_3 p148 q148
     cases e148
     replace hx148_0 := (HB.out.cell (World.block_lt_of_cell? w _ hx148_0)).trans hx148_0
     replace hx148_1 := (HB.out.cell (World.block_lt_of_cell? w _ hx148_1)).trans hx148_1
     replace p148 := eq_true p148
     replace q148 := eq_true q148
     have p149 : 0 ≤ (x6_3 : Int) := of_decide_eq_true dq13
     have q149 : x6_3 < (((rd_T65 l0 x4_2).f3).length : Int) := of_decide_eq_true dq13
     obtain ⟨ad149, e149, hx149_0, hx149_1⟩ := at_T67 HR146_3.out x6_3 p149 q149
     obtain rfl : ad148 = ad149 := (by injection e149)
     replace hx149_0 := (HB.out.cell (World.block_lt_of_cell? w _ hx149_0)).trans hx149_0
     replace hx149_1 := (HB.out.cell (World.block_lt_of_cell? w _ hx149_1)).trans hx149_1
     replace p149 := eq_true p149
     replace q149 := eq_true q149
     go_wp2
     repeat (go_quiet (fail); try go_wp2)
     go_roundg k3
     case measure => have := HJ1.out; have := HK2.out; have := HK3.out; omega
     case rel => exact ⟨(wrap64 ((wrap64 (x3_3 + (((rd_T67 ((rd_T65 l0 x4_2).f3) x6_3).f0).size : Int))) + (((rd_T67 ((rd_T65 l0 x4_2).f3) x6_3).f1).size : Int))), (wrap64 (x6_3 + 1)), dq12, dq12, H', ⟨by have := HJ1.out; have := HK2.out; have := HK3.out; omega⟩, ⟨dq28⟩, ⟨dq27⟩⟩
   clear HC7
   try clear c5b0
   try clear c6b0
   try clear hcz9_0
   try clear hcz9_1
   try clear hcz9_2
   try clear hcz9_3
   try clear hfz9_0
   try clear hfz9_1
   try clear hfz9_2
   try clear hfz9_3
   try clear hx146_0
   try clear hx146_1
   try clear hx146_2
   try clear hx146_3
   try clear p146
   try clear q146
   obtain ⟨kq, x3_6, rfl, HA, HJ6, BK147, HB⟩ := hcut
   cases kq with
   | zero => exact absurd HA.out (by simp [spec_DocOk.j3])
   | succ kj6 =>
    have H := HA.out
    clear HA
    simp only [spec_DocOk.j3] at H
    by_cases c16 : x3_6 > 2500
    ·rw [if_pos c16] at H
     have c16b0 : decide (2500 < x3_6) = true := decide_eq_true c16
     clear c16
     obtain rfl := Option.some.inj H
     go_wp2
     go_ret
     exact ⟨dq11, dq27⟩
    rw [if_neg c16] at H
    have c16b0 : decide (2500 < x3_6) = false := decide_eq_false c16
    clear c16
    have HC17 := Aside0.mk H
    clear H
    go_upto_if 66 with (fail)
    go_cut [] (fun wc => ∃ (kq : Nat), Aside0 (spec_DocOk.j4 kq l0 x3_6 x4_2 ((rd_T65 l0 x4_2).f0) ((rd_T65 l0 x4_2).f1) ((rd_T65 l0 x4_2).f2) ((rd_T65 l0 x4_2).f3) = some r) ∧ Aside0 (kq ≤ kj6) ∧ Aside0 (wc.heap[gb147]? = some (.cells #[.int .i64 ((rd_T65 l0 x4_2).f0), .string ((rd_T65 l0 x4_2).f1), .string ((rd_T65 l0 x4_2).f2), (.slice A146_3 ((rd_T65 l0 x4_2).f3).length c146_3)] 65 (0, 0))) ∧ Aside0 (Below w.heap.size w wc))
    case first =>
     have H := HC17.out
     clear HC17
     by_cases c18 : x4_2 = 0
     ·rw [if_pos c18] at H
      have c18b0 := beq_iff_eq.mpr c18
      have c18b1 := bne_eq_false_iff_eq.mpr c18
      clear c18
      (first | rw [c18b0] | (simp only [i64_w, i32_w]; rw [c18b0]) | skip)
      by_cases c19 : ((rd_T65 l0 x4_2).f0) = (-1)
      rotate_left
      ·rw [if_neg c19] at H
       have c19b0 := beq_eq_false_iff_ne.mpr c19
       have c19b1 := bne_iff_ne.mpr c19
       obtain rfl := Option.some.inj H
       obtain ⟨⟨hcz23_0, hcz23_1, hcz23_2, hcz23_3⟩, hfz23_0, hfz23_1, hfz23_2, hfz23_3⟩ := blkC4 BK147.out
       go_wp2
       go_ret
       exact ⟨dq11, dq27⟩
      rw [if_pos c19] at H
      have c19b0 := beq_iff_eq.mpr c19
      have c19b1 := bne_eq_false_iff_eq.mpr c19
      clear c19
      by_cases c20 : ((rd_T65 l0 x4_2).f1).toList = ([] : List UInt8)
      ·rw [if_pos c20] at H
       have c20b0 := beq_iff_eq.mpr c20
       have c20b1 := bne_eq_false_iff_eq.mpr c20
       clear c20
       obtain rfl := Option.some.inj H
       obtain ⟨⟨hcz21_0, hcz21_1, hcz21_2, hcz21_3⟩, hfz21_0, hfz21_1, hfz21_2, hfz21_3⟩ := blkC4 BK147.out
       go_wp2
       go_ret
       exact ⟨dq11, dq27⟩
      rw [if_neg c20] at H
      have c20b0 := beq_eq_false_iff_ne.mpr c20
      have c20b1 := bne_iff_ne.mpr c20
      have H' := Aside0.mk H
      clear H
      obtain ⟨⟨hcz22_0, hcz22_1, hcz22_2, hcz22_3⟩, hfz22_0, hfz22_1, hfz22_2, hfz22_3⟩ := blkC4 BK147.out
      go_wp2
      go_meet
      case rel => exact ⟨_, H', ⟨by have := HJ1.out; have := HK2.out; have := HJ6.out; first | omega | exact Nat.le_refl _⟩, ⟨dq28⟩, ⟨dq27⟩⟩
     rw [if_neg c18] at H
     have c18b0 := beq_eq_false_iff_ne.mpr c18
     have c18b1 := bne_iff_ne.mpr c18
     (first | rw [c18b0] | (simp only [i64_w, i32_w]; rw [c18b0]) | skip)
     replace H := Option.bind_eq_some_iff.mp H
     obtain ⟨t150, A240, H⟩ := H
     replace H : (if t150 = true then (if 0 ≤ ((rd_T65 l0 x4_2).f0) then (if ((rd_T65 l0 x4_2).f0) < (l0.length : Int) then (if ((rd_T65 l0 ((rd_T65 l0 x4_2).f0)).f1).toList = ([] : List UInt8) then (some false) else (spec_DocOk.j4 kj6 l0 x3_6 x4_2 ((rd_T65 l0 x4_2).f0) ((rd_T65 l0 x4_2).f1) ((rd_T65 l0 x4_2).f2) ((rd_T65 l0 x4_2).f3))) else (none)) else (none)) else (some false)) = some r := H
     have A24 := Aside0.mk A240
     clear A240
     by_cases c25 : t150 = true
     rotate_left
     ·replace c25 := Bool.eq_false_iff.mpr c25
      subst c25
      have H1 : (some false) = some r := by rw [if_neg (show ¬ (false = true) by decide)] at H; exact H
      clear H
      have H := H1
      clear H1
      obtain rfl := Option.some.inj H
      obtain ⟨⟨hcz31_0, hcz31_1, hcz31_2, hcz31_3⟩, hfz31_0, hfz31_1, hfz31_2, hfz31_3⟩ := blkC4 BK147.out
      go_wp2_with (first | (go_at_call 47; (with_reducible refine (spec_l1In.calls ((rd_T65 l0 x4_2).f0) 0 (wrap64 (x4_2 - 1)) false _ A24.out).mono ?_); rintro e w' ⟨rfl, ⟨nd, rfl⟩⟩; (try first | exact ⟨rfl, _, World.drewN_drewN _ _ _⟩ | exact ⟨rfl, _, Eq.trans (World.drewN_drewN _ _ _) (congrArg (World.drewN _) (Nat.add_assoc _ _ _))⟩)))
      go_ret
      exact ⟨dq11, dq27⟩
     subst c25
     have H1 : (if 0 ≤ ((rd_T65 l0 x4_2).f0) then (if ((rd_T65 l0 x4_2).f0) < (l0.length : Int) then (if ((rd_T65 l0 ((rd_T65 l0 x4_2).f0)).f1).toList = ([] : List UInt8) then (some false) else (spec_DocOk.j4 kj6 l0 x3_6 x4_2 ((rd_T65 l0 x4_2).f0) ((rd_T65 l0 x4_2).f1) ((rd_T65 l0 x4_2).f2) ((rd_T65 l0 x4_2).f3))) else (none)) else (none)) = some r := by rw [if_pos rfl] at H; exact H
     clear H
     have H := H1
     clear H1
     by_cases c26 : 0 ≤ ((rd_T65 l0 x4_2).f0)
     rotate_left
     ·rw [if_neg c26] at H
      exact absurd H dq17
     rw [if_pos c26] at H
     have c26b0 := decide_eq_true c26
     clear c26
     by_cases c27 : ((rd_T65 l0 x4_2).f0) < (l0.length : Int)
     rotate_left
     ·rw [if_neg c27] at H
      exact absurd H dq17
     rw [if_pos c27] at H
     have c27b0 := decide_eq_true c27
     clear c27
     by_cases c28 : ((rd_T65 l0 ((rd_T65 l0 x4_2).f0)).f1).toList = ([] : List UInt8)
     ·rw [if_pos c28] at H
      have c28b0 := beq_iff_eq.mpr c28
      have c28b1 := bne_eq_false_iff_eq.mpr c28
      clear c28
      obtain rfl := Option.some.inj H
      obtain ⟨⟨hcz29_0, hcz29_1, hcz29_2, hcz29_3⟩, hfz29_0, hfz29_1, hfz29_2, hfz29_3⟩ := blkC4 BK147.out
      go_wp2_with (first | (go_at_call 47; (with_reducible refine (spec_l1In.calls ((rd_T65 l0 x4_2).f0) 0 (wrap64 (x4_2 - 1)) true _ A24.out).mono ?_); rintro e w' ⟨rfl, ⟨nd, rfl⟩⟩; (try first | exact ⟨rfl, _, World.drewN_drewN _ _ _⟩ | exact ⟨rfl, _, Eq.trans (World.drewN_drewN _ _ _) (congrArg (World.drewN _) (Nat.add_assoc _ _ _))⟩); have p151 : 0 ≤ (((rd_T65 l0 x4_2).f0) : Int) := of_decide_eq_true dq13; have q151 : ((rd_T65 l0 x4_2).f0) < (l0.length : Int) := of_decide_eq_true dq13; obtain ⟨ad151, A151_3, c151_3, e151, hx151_0, hx151_1, hx151_2, hx151_3, hl151_3, hi151_3⟩ := at_T65 HR0.out ((rd_T65 l0 x4_2).f0) p151 q151; obtain rfl : ad146 = ad151 := (by injection e151); replace hx151_0 := (HB.out.cell (World.block_lt_of_cell? w _ hx151_0)).trans hx151_0; replace hx151_1 := (HB.out.cell (World.block_lt_of_cell? w _ hx151_1)).trans hx151_1; replace hx151_2 := (HB.out.cell (World.block_lt_of_cell? w _ hx151_2)).trans hx151_2; replace hx151_3 := (HB.out.cell (World.block_lt_of_cell? w _ hx151_3)).trans hx151_3; have HR151_3 := Aside0.mk hi151_3; have HC151_3 := Aside0.mk hl151_3; clear hi151_3 hl151_3; replace p151 := eq_true p151; replace q151 := eq_true q151))
      go_ret
      exact ⟨dq11, dq27⟩
     rw [if_neg c28] at H
     have c28b0 := beq_eq_false_iff_ne.mpr c28
     have c28b1 := bne_iff_ne.mpr c28
     have H' := Aside0.mk H
     clear H
     obtain ⟨⟨hcz30_0, hcz30_1, hcz30_2, hcz30_3⟩, hfz30_0, hfz30_1, hfz30_2, hfz30_3⟩ := blkC4 BK147.out
     go_wp2_with (first | (go_at_call 47; (with_reducible refine (spec_l1In.calls ((rd_T65 l0 x4_2).f0) 0 (wrap64 (x4_2 - 1)) true _ A24.out).mono ?_); rintro e w' ⟨rfl, ⟨nd, rfl⟩⟩; (try first | exact ⟨rfl, _, World.drewN_drewN _ _ _⟩ | exact ⟨rfl, _, Eq.trans (World.drewN_drewN _ _ _) (congrArg (World.drewN _) (Nat.add_assoc _ _ _))⟩); have p151 : 0 ≤ (((rd_T65 l0 x4_2).f0) : Int) := of_decide_eq_true dq13; have q151 : ((rd_T65 l0 x4_2).f0) < (l0.length : Int) := of_decide_eq_true dq13; obtain ⟨ad151, A151_3, c151_3, e151, hx151_0, hx151_1, hx151_2, hx151_3, hl151_3, hi151_3⟩ := at_T65 HR0.out ((rd_T65 l0 x4_2).f0) p151 q151; obtain rfl : ad146 = ad151 := (by injection e151); replace hx151_0 := (HB.out.cell (World.block_lt_of_cell? w _ hx151_0)).trans hx151_0; replace hx151_1 := (HB.out.cell (World.block_lt_of_cell? w _ hx151_1)).trans hx151_1; replace hx151_2 := (HB.out.cell (World.block_lt_of_cell? w _ hx151_2)).trans hx151_2; replace hx151_3 := (HB.out.cell (World.block_lt_of_cell? w _ hx151_3)).trans hx151_3; have HR151_3 := Aside0.mk hi151_3; have HC151_3 := Aside0.mk hl151_3; clear hi151_3 hl151_3; replace p151 := eq_true p151; replace q151 := eq_true q151))
     go_meet
     case rel => exact ⟨_, H', ⟨by have := HJ1.out; have := HK2.out; have := HJ6.out; first | omega | exact Nat.le_refl _⟩, ⟨dq28⟩, ⟨dq27⟩⟩
    clear HC17
    try clear c16b0
    obtain ⟨kq, HA, HJ16, BK147, HB⟩ := hcut
    cases kq with
    | zero => exact absurd HA.out (by simp [spec_DocOk.j4])
    | succ kj16 =>
     have H := HA.out
     clear HA
     simp only [spec_DocOk.j4] at H
     have HC32 := Aside0.mk H
     clear H
     go_upto_if 91 with (fail)
     go_cut [] (fun wc => ∃ (kq : Nat), Aside0 (spec_DocOk.j6 kq l0 x3_6 x4_2 ((rd_T65 l0 x4_2).f0) ((rd_T65 l0 x4_2).f1) ((rd_T65 l0 x4_2).f2) ((rd_T65 l0 x4_2).f3) = some r) ∧ Aside0 (kq ≤ kj16) ∧ Aside0 (wc.heap[gb147]? = some (.cells #[.int .i64 ((rd_T65 l0 x4_2).f0), .string ((rd_T65 l0 x4_2).f1), .string ((rd_T65 l0 x4_2).f2), (.slice A146_3 ((rd_T65 l0 x4_2).f3).length c146_3)] 65 (0, 0))) ∧ Aside0 (Below w.heap.size w wc))
     case first =>
      have H := HC32.out
      clear HC32
      by_cases c33 : x4_2 > 0
      rotate_left
      ·rw [if_neg c33] at H
       have c33b0 : decide (0 < x4_2) = false := decide_eq_false c33
       clear c33
       (first | rw [c33b0] | (simp only [i64_w, i32_w]; rw [c33b0]) | skip)
       have H' := Aside0.mk H
       clear H
       go_wp2
       go_meet
       case rel => exact ⟨_, H', ⟨by have := HJ1.out; have := HK2.out; have := HJ6.out; have := HJ16.out; first | omega | exact Nat.le_refl _⟩, ⟨dq28⟩, ⟨dq27⟩⟩
      rw [if_pos c33] at H
      have c33b0 : decide (0 < x4_2) = true := decide_eq_true c33
      clear c33
      (first | rw [c33b0] | (simp only [i64_w, i32_w]; rw [c33b0]) | skip)
      have H' := Aside0.mk H
      clear H
      go_wp2
      go_loopg [7] kj16 (fun kq v7 w' => ∃ (x7_5 : Int), v7 = .int .i64 x7_5 ∧ Aside0 (spec_DocOk.l2 kq l0 x3_6 x4_2 x7_5 ((rd_T65 l0 x4_2).f0) ((rd_T65 l0 x4_2).f1) ((rd_T65 l0 x4_2).f2) ((rd_T65 l0 x4_2).f3) = some r) ∧ Aside0 (kq ≤ kj16) ∧ Aside0 (w'.heap[gb147]? = some (.cells #[.int .i64 ((rd_T65 l0 x4_2).f0), .string ((rd_T65 l0 x4_2).f1), .string ((rd_T65 l0 x4_2).f2), (.slice A146_3 ((rd_T65 l0 x4_2).f3).length c146_3)] 65 (0, 0))) ∧ Aside0 (Below w.heap.size w w'))
      case atStart => exact ⟨(wrap64 (x4_2 - 1)), dq12, H', ⟨Nat.le_refl _⟩, ⟨dq28⟩, ⟨dq27⟩⟩
      clear H'
      try clear c33b0
      obtain ⟨x7_5, rfl, HA, HK5, BK147, HB⟩ := hrel
      cases gk with
      | zero => exact absurd HA.out (by simp [spec_DocOk.l2])
      | succ k5 =>
       have H := HA.out
       clear HA
       simp only [spec_DocOk.l2] at H
       by_cases c34 : x7_5 ≥ 0
       rotate_left
       ·rw [if_neg c34] at H
        have c34b0 : decide (0 ≤ x7_5) = false := decide_eq_false c34
        clear c34
        by_cases c42 : x7_5 < 0
        ·rw [if_pos c42] at H
         have c42b0 := decide_eq_true c42
         clear c42
         obtain rfl := Option.some.inj H
         go_wp2
         go_ret
         exact ⟨dq11, dq27⟩
        rw [if_neg c42] at H
        have c42b0 := decide_eq_false c42
        clear c42
        have H' := Aside0.mk H
        clear H
        go_wp2
        go_meet
        case rel => exact ⟨_, H', ⟨by have := HJ1.out; have := HK2.out; have := HJ6.out; have := HJ16.out; have := HK5.out; first | omega | exact Nat.le_refl _⟩, ⟨dq28⟩, ⟨dq27⟩⟩
       rw [if_pos c34] at H
       have c34b0 : decide (0 ≤ x7_5) = true := decide_eq_true c34
       clear c34
       by_cases c35 : x7_5 = ((rd_T65 l0 x4_2).f0)
       ·rw [if_pos c35] at H
        have c35b0 := beq_iff_eq.mpr c35
        have c35b1 := bne_eq_false_iff_eq.mpr c35
        clear c35
        by_cases c36 : x7_5 < 0
        ·rw [if_pos c36] at H
         have c36b0 := decide_eq_true c36
         clear c36
         obtain rfl := Option.some.inj H
         obtain ⟨⟨hcz37_0, hcz37_1, hcz37_2, hcz37_3⟩, hfz37_0, hfz37_1, hfz37_2, hfz37_3⟩ := blkC4 BK147.out
         go_wp2
         go_ret
         exact ⟨dq11, dq27⟩
        rw [if_neg c36] at H
        have c36b0 := decide_eq_false c36
        clear c36
        have H' := Aside0.mk H
        clear H
        obtain ⟨⟨hcz38_0, hcz38_1, hcz38_2, hcz38_3⟩, hfz38_0, hfz38_1, hfz38_2, hfz38_3⟩ := blkC4 BK147.out
        go_wp2
        go_meet
        case rel => exact ⟨_, H', ⟨by have := HJ1.out; have := HK2.out; have := HJ6.out; have := HJ16.out; have := HK5.out; first | omega | exact Nat.le_refl _⟩, ⟨dq28⟩, ⟨dq27⟩⟩
       rw [if_neg c35] at H
       have c35b0 := beq_eq_false_iff_ne.mpr c35
       have c35b1 := bne_iff_ne.mpr c35
       by_cases c39 : 0 ≤ x7_5
       rotate_left
       ·rw [if_neg c39] at H
        exact absurd H dq17
       rw [if_pos c39] at H
       have c39b0 := decide_eq_true c39
       clear c39
       by_cases c40 : x7_5 < (l0.length : Int)
       rotate_left
       ·rw [if_neg c40] at H
        exact absurd H dq17
       rw [if_pos c40] at H
       have c40b0 := decide_eq_true c40
       clear c40
       have H' := Aside0.mk H
       clear H
       obtain ⟨⟨hcz41_0, hcz41_1, hcz41_2, hcz41_3⟩, hfz41_0, hfz41_1, hfz41_2, hfz41_3⟩ := blkC4 BK147.out
       have p152 : 0 ≤ (x7_5 : Int) := of_decide_eq_true dq13
       have q152 : x7_5 < (l0.length : Int) := of_decide_eq_true dq13
       obtain ⟨ad152, A152_3, c152_3, e152, hx152_0, hx152_1, hx152_2, hx152_3, hl152_3, hi152_3⟩ := at_T65 HR0.out x7_5 p152 q152
       obtain rfl : ad146 = ad152 := (by injection e152)
       replace hx152_0 := (HB.out.cell (World.block_lt_of_cell? w _ hx152_0)).trans hx152_0
       replace hx152_1 := (HB.out.cell (World.block_lt_of_cell? w _ hx152_1)).trans hx152_1
       replace hx152_2 := (HB.out.cell (World.block_lt_of_cell? w _ hx152_2)).trans hx152_2
       replace hx152_3 := (HB.out.cell (World.block_lt_of_cell? w _ hx152_3)).trans hx152_3
       have HR152_3 := Aside0.mk hi152_3
       have HC152_3 := Aside0.mk hl152_3
       clear hi152_3 hl152_3
       replace p152 := eq_true p152
       replace q152 := eq_true q152
       go_wp2
       go_roundg k5
       case measure => have := HJ1.out; have := HK2.out; have := HJ6.out; have := HJ16.out; have := HK5.out; omega
       case rel => exact ⟨((rd_T65 l0 x7_5).f0), dq12, H', ⟨by have := HJ1.out; have := HK2.out; have := HJ6.out; have := HJ16.out; have := HK5.out; omega⟩, ⟨dq28⟩, ⟨dq27⟩⟩
     clear HC32
     obtain ⟨kq, HA, HJ31, BK147, HB⟩ := hcut
     cases kq with
     | zero => exact absurd HA.out (by simp [spec_DocOk.j6])
     | succ kj31 =>
      have H := HA.out
      clear HA
      simp only [spec_DocOk.j6] at H
      replace H := Option.bind_eq_some_iff.mp H
      obtain ⟨t153, A430, H⟩ := H
      replace H : (if t153 ≥ 20 then (some false) else (if ((rd_T65 l0 x4_2).f1).toList = ([] : List UInt8) then (if ((rd_T65 l0 x4_2).f2).toList = ([] : List UInt8) then (spec_DocOk.j7 kj31 l0 x3_6 x4_2 true ((rd_T65 l0 x4_2).f0) ((rd_T65 l0 x4_2).f1) ((rd_T65 l0 x4_2).f2) ((rd_T65 l0 x4_2).f3)) else (if (((rd_T65 l0 x4_2).f3).length : Int) > 0 then (spec_DocOk.j7 kj31 l0 x3_6 x4_2 true ((rd_T65 l0 x4_2).f0) ((rd_T65 l0 x4_2).f1) ((rd_T65 l0 x4_2).f2) ((rd_T65 l0 x4_2).f3)) else ((spec_l1Text.f kj31 ((rd_T65 l0 x4_2).f2)).bind fun t154 => (spec_DocOk.j7 kj31 l0 x3_6 x4_2 (!t154) ((rd_T65 l0 x4_2).f0) ((rd_T65 l0 x4_2).f1) ((rd_T65 l0 x4_2).f2) ((rd_T65 l0 x4_2).f3))))) else (if ((rd_T65 l0 x4_2).f2).toList = ([] : List UInt8) then ((spec_l1Qual.f kj31 ((rd_T65 l0 x4_2).f1)).bind fun t157 => (if t157 = true then ((spec_l2Attrs.f kj31 ((rd_T65 l0 x4_2).f3)).bind fun t158 => (if t158 = true then (spec_DocOk.l0 kj31 l0 x3_6 (wrap64 (x4_2 + 1))) else (some false))) else (some false))) else (some false)))) = some r := H
      have A43 := Aside0.mk A430
      clear A430
      by_cases c44 : t153 ≥ 20
      ·rw [if_pos c44] at H
       have c44b0 : decide (20 ≤ t153) = true := decide_eq_true c44
       clear c44
       obtain rfl := Option.some.inj H
       go_wp2_with (first | (go_at_call 85; (with_reducible refine (spec_l2Deep.calls kj31 _ _ l0 x4_2 t153 _ ?side1 ?side2 A43.out).mono ?_); (case side1 => exact dq2); (case side2 => exact HC0.out); rintro e w' ⟨rfl, ⟨nd, rfl⟩⟩; (try first | exact ⟨rfl, _, World.drewN_drewN _ _ _⟩ | exact ⟨rfl, _, Eq.trans (World.drewN_drewN _ _ _) (congrArg (World.drewN _) (Nat.add_assoc _ _ _))⟩)))
       go_ret
       exact ⟨dq11, dq27⟩
      rw [if_neg c44] at H
      have c44b0 : decide (20 ≤ t153) = false := decide_eq_false c44
      clear c44
      by_cases c45 : ((rd_T65 l0 x4_2).f1).toList = ([] : List UInt8)
      rotate_left
      ·rw [if_neg c45] at H
       have c45b0 := beq_eq_false_iff_ne.mpr c45
       have c45b1 := bne_iff_ne.mpr c45
       by_cases c63 : ((rd_T65 l0 x4_2).f2).toList = ([] : List UInt8)
       rotate_left
       ·rw [if_neg c63] at H
        have c63b0 := beq_eq_false_iff_ne.mpr c63
        have c63b1 := bne_iff_ne.mpr c63
        obtain rfl := Option.some.inj H
        go_wp2_with (first | (go_at_call 85; (with_reducible refine (spec_l2Deep.calls kj31 _ _ l0 x4_2 t153 _ ?side1 ?side2 A43.out).mono ?_); (case side1 => exact dq2); (case side2 => exact HC0.out); rintro e w' ⟨rfl, ⟨nd, rfl⟩⟩; (try first | exact ⟨rfl, _, World.drewN_drewN _ _ _⟩ | exact ⟨rfl, _, Eq.trans (World.drewN_drewN _ _ _) (congrArg (World.drewN _) (Nat.add_assoc _ _ _))⟩); obtain ⟨⟨hcz73_0, hcz73_1, hcz73_2, hcz73_3⟩, hfz73_0, hfz73_1, hfz73_2, hfz73_3⟩ := blkC4 BK147.out))
        go_ret
        exact ⟨dq11, dq27⟩
       rw [if_pos c63] at H
       have c63b0 := beq_iff_eq.mpr c63
       have c63b1 := bne_eq_false_iff_eq.mpr c63
       clear c63
       replace H := Option.bind_eq_some_iff.mp H
       obtain ⟨t157, A640, H⟩ := H
       replace H : (if t157 = true then ((spec_l2Attrs.f kj31 ((rd_T65 l0 x4_2).f3)).bind fun t158 => (if t158 = true then (spec_DocOk.l0 kj31 l0 x3_6 (wrap64 (x4_2 + 1))) else (some false))) else (some false)) = some r := H
       have A64 := Aside0.mk A640
       clear A640
       by_cases c65 : t157 = true
       rotate_left
       ·replace c65 := Bool.eq_false_iff.mpr c65
        subst c65
        have H1 : (some false) = some r := by rw [if_neg (show ¬ (false = true) by decide)] at H; exact H
        clear H
        have H := H1
        clear H1
        obtain rfl := Option.some.inj H
        go_wp2_with (first | (go_at_call 85; (with_reducible refine (spec_l2Deep.calls kj31 _ _ l0 x4_2 t153 _ ?side1 ?side2 A43.out).mono ?_); (case side1 => exact dq2); (case side2 => exact HC0.out); rintro e w' ⟨rfl, ⟨nd, rfl⟩⟩; (try first | exact ⟨rfl, _, World.drewN_drewN _ _ _⟩ | exact ⟨rfl, _, Eq.trans (World.drewN_drewN _ _ _) (congrArg (World.drewN _) (Nat.add_assoc _ _ _))⟩); obtain ⟨⟨hcz72_0, hcz72_1, hcz72_2, hcz72_3⟩, hfz72_0, hfz72_1, hfz72_2, hfz72_3⟩ := blkC4 BK147.out) | (go_at_call 87; (with_reducible refine (spec_l1Qual.calls kj31 ((rd_T65 l0 x4_2).f1) false _ A64.out).mono ?_); rintro e w' ⟨rfl, ⟨nd, rfl⟩⟩; (try first | exact ⟨rfl, _, World.drewN_drewN _ _ _⟩ | exact ⟨rfl, _, Eq.trans (World.drewN_drewN _ _ _) (congrArg (World.drewN _) (Nat.add_assoc _ _ _))⟩)))
        go_ret
        exact ⟨dq11, dq27⟩
       subst c65
       have H1 : ((spec_l2Attrs.f kj31 ((rd_T65 l0 x4_2).f3)).bind fun t158 => (if t158 = true then (spec_DocOk.l0 kj31 l0 x3_6 (wrap64 (x4_2 + 1))) else (some false))) = some r := by rw [if_pos rfl] at H; exact H
       clear H
       have H := H1
       clear H1
       replace H := Option.bind_eq_some_iff.mp H
       obtain ⟨t158, A660, H⟩ := H
       replace H : (if t158 = true then (spec_DocOk.l0 kj31 l0 x3_6 (wrap64 (x4_2 + 1))) else (some false)) = some r := H
       have A66 := Aside0.mk A660
       clear A660
       by_cases c67 : t158 = true
       rotate_left
       ·replace c67 := Bool.eq_false_iff.mpr c67
        subst c67
        have H1 : (some false) = some r := by rw [if_neg (show ¬ (false = true) by decide)] at H; exact H
        clear H
        have H := H1
        clear H1
        obtain rfl := Option.some.inj H
        go_wp2_with (first | (go_at_call 85; (with_reducible refine (spec_l2Deep.calls kj31 _ _ l0 x4_2 t153 _ ?side1 ?side2 A43.out).mono ?_); (case side1 => exact dq2); (case side2 => exact HC0.out); rintro e w' ⟨rfl, ⟨nd, rfl⟩⟩; (try first | exact ⟨rfl, _, World.drewN_drewN _ _ _⟩ | exact ⟨rfl, _, Eq.trans (World.drewN_drewN _ _ _) (congrArg (World.drewN _) (Nat.add_assoc _ _ _))⟩); obtain ⟨⟨hcz70_0, hcz70_1, hcz70_2, hcz70_3⟩, hfz70_0, hfz70_1, hfz70_2, hfz70_3⟩ := blkC4 BK147.out) | (go_at_call 87; (with_reducible refine (spec_l1Qual.calls kj31 ((rd_T65 l0 x4_2).f1) true _ A64.out).mono ?_); rintro e w' ⟨rfl, ⟨nd, rfl⟩⟩; (try first | exact ⟨rfl, _, World.drewN_drewN _ _ _⟩ | exact ⟨rfl, _, Eq.trans (World.drewN_drewN _ _ _) (congrArg (World.drewN _) (Nat.add_assoc _ _ _))⟩)) | (go_at_call 88; (with_reducible refine (spec_l2Attrs.calls kj31 _ _ ((rd_T65 l0 x4_2).f3) false _ ?side1 ?side2 A66.out).mono ?_); (case side1 => repeat (first | exact (Kd.C_below HR146_3.out dq27) | (with_reducible refine Kd.C_alloc ?_ _) | (with_reducible refine Kd.C_drewN ?_ _) | (with_reducible refine Kd.C_drew ?_))); (case side2 => exact HC146_3.out); rintro e w71 ⟨rfl, hb⟩; have n0_ := Aside0.mk (blk_below (g := gb147) (o := .cells #[.int .i64 ((rd_T65 l0 x4_2).f0), .string ((rd_T65 l0 x4_2).f1), .string ((rd_T65 l0 x4_2).f2), .slice A146_3 ((rd_T65 l0 x4_2).f3).length c146_3] 65 (0, 0)) dq28 hb); have n1_ := Aside0.mk (below_step dq27 hb); clear BK147; clear HB; have BK147 := n0_; have HB := n1_; clear n0_ n1_; (try clear hb); (try clear hb2); (try clear hk); (try clear hi)))
        go_ret
        exact ⟨dq11, dq27⟩
       subst c67
       have H1 : (spec_DocOk.l0 kj31 l0 x3_6 (wrap64 (x4_2 + 1))) = some r := by rw [if_pos rfl] at H; exact H
       clear H
       have H := H1
       clear H1
       have H' := Aside0.mk H
       clear H
       go_wp2_with (first | (go_at_call 85; (with_reducible refine (spec_l2Deep.calls kj31 _ _ l0 x4_2 t153 _ ?side1 ?side2 A43.out).mono ?_); (case side1 => exact dq2); (case side2 => exact HC0.out); rintro e w' ⟨rfl, ⟨nd, rfl⟩⟩; (try first | exact ⟨rfl, _, World.drewN_drewN _ _ _⟩ | exact ⟨rfl, _, Eq.trans (World.drewN_drewN _ _ _) (congrArg (World.drewN _) (Nat.add_assoc _ _ _))⟩); obtain ⟨⟨hcz68_0, hcz68_1, hcz68_2, hcz68_3⟩, hfz68_0, hfz68_1, hfz68_2, hfz68_3⟩ := blkC4 BK147.out) | (go_at_call 87; (with_reducible refine (spec_l1Qual.calls kj31 ((rd_T65 l0 x4_2).f1) true _ A64.out).mono ?_); rintro e w' ⟨rfl, ⟨nd, rfl⟩⟩; (try first | exact ⟨rfl, _, World.drewN_drewN _ _ _⟩ | exact ⟨rfl, _, Eq.trans (World.drewN_drewN _ _ _) (congrArg (World.drewN _) (Nat.add_assoc _ _ _))⟩)) | (go_at_call 88; (with_reducible refine (spec_l2Attrs.calls kj31 _ _ ((rd_T65 l0 x4_2).f3) true _ ?side1 ?side2 A66.out).mono ?_); (case side1 => repeat (first | exact (Kd.C_below HR146_3.out dq27) | (with_reducible refine Kd.C_alloc ?_ _) | (with_reducible refine Kd.C_drewN ?_ _) | (with_reducible refine Kd.C_drew ?_))); (case side2 => exact HC146_3.out); rintro e w69 ⟨rfl, hb⟩; have n0_ := Aside0.mk (blk_below (g := gb147) (o := .cells #[.int .i64 ((rd_T65 l0 x4_2).f0), .string ((rd_T65 l0 x4_2).f1), .string ((rd_T65 l0 x4_2).f2), .slice A146_3 ((rd_T65 l0 x4_2).f3).length c146_3] 65 (0, 0)) dq28 hb); have n1_ := Aside0.mk (below_step dq27 hb); clear BK147; clear HB; have BK147 := n0_; have HB := n1_; clear n0_ n1_; (try clear hb); (try clear hb2); (try clear hk); (try clear hi)))
       go_roundg kj31
       case measure => have := HJ1.out; have := HK2.out; have := HJ6.out; have := HJ16.out; have := HJ31.out; omega
       case rel => exact ⟨(x3_6), (wrap64 (x4_2 + 1)), dq12, dq12, H', ⟨by have := HJ1.out; have := HK2.out; have := HJ6.out; have := HJ16.out; have := HJ31.out; omega⟩, ⟨dq27⟩⟩
      rw [if_pos c45] at H
      have c45b0 := beq_iff_eq.mpr c45
      have c45b1 := bne_eq_false_iff_eq.mpr c45
      clear c45
      have HC46 := Aside0.mk H
      clear H
      go_upto_region 29 with (first | (go_at_call 85; (with_reducible refine (spec_l2Deep.calls kj31 _ _ l0 x4_2 t153 _ ?side1 ?side2 A43.out).mono ?_); (case side1 => exact dq2); (case side2 => exact HC0.out); rintro e w' ⟨rfl, ⟨nd, rfl⟩⟩; (try first | exact ⟨rfl, _, World.drewN_drewN _ _ _⟩ | exact ⟨rfl, _, Eq.trans (World.drewN_drewN _ _ _) (congrArg (World.drewN _) (Nat.add_assoc _ _ _))⟩); obtain ⟨⟨hcz47_0, hcz47_1, hcz47_2, hcz47_3⟩, hfz47_0, hfz47_1, hfz47_2, hfz47_3⟩ := blkC4 BK147.out))
      (try simp only [Act.put, List.setIfInBounds_toArray, List.set_cons_zero, List.set_cons_succ])
      go_cut [130] (fun v130 wc => ∃ (kq : Nat) (x130_45 : Bool), v130 = .bool x130_45 ∧ Aside0 (spec_DocOk.j7 kq l0 x3_6 x4_2 x130_45 ((rd_T65 l0 x4_2).f0) ((rd_T65 l0 x4_2).f1) ((rd_T65 l0 x4_2).f2) ((rd_T65 l0 x4_2).f3) = some r) ∧ Aside0 (kq ≤ kj31) ∧ Aside0 (wc.heap[gb147]? = some (.cells #[.int .i64 ((rd_T65 l0 x4_2).f0), .string ((rd_T65 l0 x4_2).f1), .string ((rd_T65 l0 x4_2).f2), (.slice A146_3 ((rd_T65 l0 x4_2).f3).length c146_3)] 65 (0, 0))) ∧ Aside0 (Below w.heap.size w wc))
      case first =>
       have H := HC46.out
       clear HC46
       by_cases c48 : ((rd_T65 l0 x4_2).f2).toList = ([] : List UInt8)
       ·rw [if_pos c48] at H
        have c48b0 := beq_iff_eq.mpr c48
        have c48b1 := bne_eq_false_iff_eq.mpr c48
        clear c48
        (first | rw [c48b0] | (simp only [i64_w, i32_w]; rw [c48b0]) | skip)
        have H' := Aside0.mk H
        clear H
        obtain ⟨⟨hcz49_0, hcz49_1, hcz49_2, hcz49_3⟩, hfz49_0, hfz49_1, hfz49_2, hfz49_3⟩ := blkC4 BK147.out
        go_wp2
        go_meet
        case rel => exact ⟨_, (true), dq12, H', ⟨dq30⟩, ⟨dq28⟩, ⟨dq27⟩⟩
       rw [if_neg c48] at H
       have c48b0 := beq_eq_false_iff_ne.mpr c48
       have c48b1 := bne_iff_ne.mpr c48
       (first | rw [c48b0] | (simp only [i64_w, i32_w]; rw [c48b0]) | skip)
       by_cases c50 : (((rd_T65 l0 x4_2).f3).length : Int) > 0
       ·rw [if_pos c50] at H
        have c50b0 : decide (0 < (((rd_T65 l0 x4_2).f3).length : Int)) = true := decide_eq_true c50
        have c50b1 : decide (0 < ((rd_T65 l0 x4_2).f3).length) = true := decide_eq_true dq20
        clear c50
        have H' := Aside0.mk H
        clear H
        obtain ⟨⟨hcz51_0, hcz51_1, hcz51_2, hcz51_3⟩, hfz51_0, hfz51_1, hfz51_2, hfz51_3⟩ := blkC4 BK147.out
        go_wp2
        go_meet
        case rel => exact ⟨_, (true), dq12, H', ⟨dq30⟩, ⟨dq28⟩, ⟨dq27⟩⟩
       rw [if_neg c50] at H
       have c50b0 : decide (0 < (((rd_T65 l0 x4_2).f3).length : Int)) = false := decide_eq_false c50
       have c50b1 : decide (0 < ((rd_T65 l0 x4_2).f3).length) = false := decide_eq_false dq20
       clear c50
       replace H := Option.bind_eq_some_iff.mp H
       obtain ⟨t154, A520, H⟩ := H
       replace H : (spec_DocOk.j7 kj31 l0 x3_6 x4_2 (!t154) ((rd_T65 l0 x4_2).f0) ((rd_T65 l0 x4_2).f1) ((rd_T65 l0 x4_2).f2) ((rd_T65 l0 x4_2).f3)) = some r := H
       have A52 := Aside0.mk A520
       clear A520
       have H' := Aside0.mk H
       clear H
       obtain ⟨⟨hcz53_0, hcz53_1, hcz53_2, hcz53_3⟩, hfz53_0, hfz53_1, hfz53_2, hfz53_3⟩ := blkC4 BK147.out
       go_wp2_with (first | (go_at_call 86; (with_reducible refine (spec_l1Text.calls kj31 ((rd_T65 l0 x4_2).f2) t154 _ A52.out).mono ?_); rintro e w54 ⟨rfl, hb⟩; have n0_ := Aside0.mk (blk_below (g := gb147) (o := .cells #[.int .i64 ((rd_T65 l0 x4_2).f0), .string ((rd_T65 l0 x4_2).f1), .string ((rd_T65 l0 x4_2).f2), .slice A146_3 ((rd_T65 l0 x4_2).f3).length c146_3] 65 (0, 0)) dq28 hb); have n1_ := Aside0.mk (below_step dq27 hb); clear BK147; clear HB; have BK147 := n0_; have HB := n1_; clear n0_ n1_; (try clear hb); (try clear hb2); (try clear hk); (try clear hi)))
       go_meet
       case rel => exact ⟨_, (!t154), dq12, H', ⟨dq30⟩, ⟨dq28⟩, ⟨dq27⟩⟩
      clear HC46
      try clear c44b0
      try clear c45b0
      try clear c45b1
      try clear hcz47_0
      try clear hcz47_1
      try clear hcz47_2
      try clear hcz47_3
      try clear hfz47_0
      try clear hfz47_1
      try clear hfz47_2
      try clear hfz47_3
      obtain ⟨kq, x130_45, rfl, HA, HJ45, BK147, HB⟩ := hcut
      cases kq with
      | zero => exact absurd HA.out (by simp [spec_DocOk.j7])
      | succ kj45 =>
       have H := HA.out
       clear HA
       simp only [spec_DocOk.j7] at H
       by_cases c55 : x130_45 = true
       ·subst c55
        have H1 : (some false) = some r := by rw [if_pos rfl] at H; exact H
        clear H
        have H := H1
        clear H1
        obtain rfl := Option.some.inj H
        go_wp2
        go_ret
        exact ⟨dq11, dq27⟩
       replace c55 := Bool.eq_false_iff.mpr c55
       subst c55
       have H1 : (if 0 ≤ (wrap64 (x4_2 - 1)) then (if (wrap64 (x4_2 - 1)) < (l0.length : Int) then (if ((rd_T65 l0 (wrap64 (x4_2 - 1))).f1).toList = ([] : List UInt8) then (if ((rd_T65 l0 (wrap64 (x4_2 - 1))).f0) = ((rd_T65 l0 x4_2).f0) then (some false) else (spec_DocOk.l0 kj45 l0 x3_6 (wrap64 (x4_2 + 1)))) else (spec_DocOk.l0 kj45 l0 x3_6 (wrap64 (x4_2 + 1)))) else (none)) else (none)) = some r := by rw [if_neg (show ¬ (false = true) by decide)] at H; exact H
       clear H
       have H := H1
       clear H1
       obtain ⟨ji56, hji56⟩ : ∃ j_ : Int, (wrap64 (x4_2 - 1)) = j_ := ⟨_, rfl⟩
       replace H : (if 0 ≤ (ji56) then (if (ji56) < (l0.length : Int) then (if ((rd_T65 l0 (ji56)).f1).toList = ([] : List UInt8) then (if ((rd_T65 l0 (ji56)).f0) = ((rd_T65 l0 x4_2).f0) then (some false) else (spec_DocOk.l0 kj45 l0 x3_6 (wrap64 (x4_2 + 1)))) else (spec_DocOk.l0 kj45 l0 x3_6 (wrap64 (x4_2 + 1)))) else (none)) else (none)) = some r := by first | (rw [hji56] at H; exact H) | (simp only [hji56] at H ⊢; exact H)
       have hji56w : (IntKind.i64.wrap (x4_2 - 1)) = ji56 := (i64_w _).trans hji56
       by_cases c57 : 0 ≤ (ji56)
       rotate_left
       ·rw [if_neg c57] at H
        exact absurd H dq17
       rw [if_pos c57] at H
       have c57b0 := decide_eq_true c57
       clear c57
       by_cases c58 : (ji56) < (l0.length : Int)
       rotate_left
       ·rw [if_neg c58] at H
        exact absurd H dq17
       rw [if_pos c58] at H
       have c58b0 := decide_eq_true c58
       clear c58
       by_cases c59 : ((rd_T65 l0 (ji56)).f1).toList = ([] : List UInt8)
       rotate_left
       ·rw [if_neg c59] at H
        have c59b0 := beq_eq_false_iff_ne.mpr c59
        have c59b1 := bne_iff_ne.mpr c59
        have H' := Aside0.mk H
        clear H
        have p155 : 0 ≤ ((ji56) : Int) := of_decide_eq_true dq13
        have q155 : (ji56) < (l0.length : Int) := of_decide_eq_true dq13
        obtain ⟨ad155, A155_3, c155_3, e155, hx155_0, hx155_1, hx155_2, hx155_3, hl155_3, hi155_3⟩ := at_T65 HR0.out (ji56) p155 q155
        obtain rfl : ad146 = ad155 := (by injection e155)
        replace hx155_0 := (HB.out.cell (World.block_lt_of_cell? w _ hx155_0)).trans hx155_0
        replace hx155_1 := (HB.out.cell (World.block_lt_of_cell? w _ hx155_1)).trans hx155_1
        replace hx155_2 := (HB.out.cell (World.block_lt_of_cell? w _ hx155_2)).trans hx155_2
        replace hx155_3 := (HB.out.cell (World.block_lt_of_cell? w _ hx155_3)).trans hx155_3
        have HR155_3 := Aside0.mk hi155_3
        have HC155_3 := Aside0.mk hl155_3
        clear hi155_3 hl155_3
        replace p155 := eq_true p155
        replace q155 := eq_true q155
        go_wp2
        repeat (go_quiet (fail); try go_wp2)
        go_roundg kj45
        case measure => have := HJ1.out; have := HK2.out; have := HJ6.out; have := HJ16.out; have := HJ31.out; have := HJ45.out; omega
        case rel => exact ⟨(x3_6), (wrap64 (x4_2 + 1)), dq12, dq12, H', ⟨by have := HJ1.out; have := HK2.out; have := HJ6.out; have := HJ16.out; have := HJ31.out; have := HJ45.out; omega⟩, ⟨dq27⟩⟩
       rw [if_pos c59] at H
       have c59b0 := beq_iff_eq.mpr c59
       have c59b1 := bne_eq_false_iff_eq.mpr c59
       clear c59
       by_cases c60 : ((rd_T65 l0 (ji56)).f0) = ((rd_T65 l0 x4_2).f0)
       ·rw [if_pos c60] at H
        have c60b0 := beq_iff_eq.mpr c60
        have c60b1 := bne_eq_false_iff_eq.mpr c60
        clear c60
        obtain rfl := Option.some.inj H
        have p155 : 0 ≤ ((ji56) : Int) := of_decide_eq_true dq13
        have q155 : (ji56) < (l0.length : Int) := of_decide_eq_true dq13
        obtain ⟨ad155, A155_3, c155_3, e155, hx155_0, hx155_1, hx155_2, hx155_3, hl155_3, hi155_3⟩ := at_T65 HR0.out (ji56) p155 q155
        obtain rfl : ad146 = ad155 := (by injection e155)
        replace hx155_0 := (HB.out.cell (World.block_lt_of_cell? w _ hx155_0)).trans hx155_0
        replace hx155_1 := (HB.out.cell (World.block_lt_of_cell? w _ hx155_1)).trans hx155_1
        replace hx155_2 := (HB.out.cell (World.block_lt_of_cell? w _ hx155_2)).trans hx155_2
        replace hx155_3 := (HB.out.cell (World.block_lt_of_cell? w _ hx155_3)).trans hx155_3
        have HR155_3 := Aside0.mk hi155_3
        have HC155_3 := Aside0.mk hl155_3
        clear hi155_3 hl155_3
        replace p155 := eq_true p155
        replace q155 := eq_true q155
        have p156 : 0 ≤ ((ji56) : Int) := of_decide_eq_true dq13
        have q156 : (ji56) < (l0.length : Int) := of_decide_eq_true dq13
        obtain ⟨ad156, A156_3, c156_3, e156, hx156_0, hx156_1, hx156_2, hx156_3, hl156_3, hi156_3⟩ := at_T65 HR0.out (ji56) p156 q156
        obtain rfl : ad146 = ad156 := (by injection e156)
        replace hx156_0 := (HB.out.cell (World.block_lt_of_cell? w _ hx156_0)).trans hx156_0
        replace hx156_1 := (HB.out.cell (World.block_lt_of_cell? w _ hx156_1)).trans hx156_1
        replace hx156_2 := (HB.out.cell (World.block_lt_of_cell? w _ hx156_2)).trans hx156_2
        replace hx156_3 := (HB.out.cell (World.block_lt_of_cell? w _ hx156_3)).trans hx156_3
        have HR156_3 := Aside0.mk hi156_3
        have HC156_3 := Aside0.mk hl156_3
        clear hi156_3 hl156_3
        replace p156 := eq_true p156
        replace q156 := eq_true q156
        have ea_ := Option.some.inj (hx155_3.symm.trans hx156_3)
        injection ea_ with ea_ en_ ec_
        subst ea_
        subst ec_
        clear en_
        obtain ⟨⟨hcz61_0, hcz61_1, hcz61_2, hcz61_3⟩, hfz61_0, hfz61_1, hfz61_2, hfz61_3⟩ := blkC4 BK147.out
        go_wp2
        repeat (go_quiet (fail); try go_wp2)
        go_ret
        exact ⟨by first | rfl | (simp [errW_none, errW_some] <;> rfl) | (simp only [← hji56]; first | rfl | (simp [errW_none, errW_some] <;> rfl)) | (simp [*, errW_none, errW_some] <;> rfl), dq27⟩
       rw [if_neg c60] at H
       have c60b0 := beq_eq_false_iff_ne.mpr c60
       have c60b1 := bne_iff_ne.mpr c60
       have H' := Aside0.mk H
       clear H
       have p155 : 0 ≤ ((ji56) : Int) := of_decide_eq_true dq13
       have q155 : (ji56) < (l0.length : Int) := of_decide_eq_true dq13
       obtain ⟨ad155, A155_3, c155_3, e155, hx155_0, hx155_1, hx155_2, hx155_3, hl155_3, hi155_3⟩ := at_T65 HR0.out (ji56) p155 q155
       obtain rfl : ad146 = ad155 := (by injection e155)
       replace hx155_0 := (HB.out.cell (World.block_lt_of_cell? w _ hx155_0)).trans hx155_0
       replace hx155_1 := (HB.out.cell (World.block_lt_of_cell? w _ hx155_1)).trans hx155_1
       replace hx155_2 := (HB.out.cell (World.block_lt_of_cell? w _ hx155_2)).trans hx155_2
       replace hx155_3 := (HB.out.cell (World.block_lt_of_cell? w _ hx155_3)).trans hx155_3
       have HR155_3 := Aside0.mk hi155_3
       have HC155_3 := Aside0.mk hl155_3
       clear hi155_3 hl155_3
       replace p155 := eq_true p155
       replace q155 := eq_true q155
       have p156 : 0 ≤ ((ji56) : Int) := of_decide_eq_true dq13
       have q156 : (ji56) < (l0.length : Int) := of_decide_eq_true dq13
       obtain ⟨ad156, A156_3, c156_3, e156, hx156_0, hx156_1, hx156_2, hx156_3, hl156_3, hi156_3⟩ := at_T65 HR0.out (ji56) p156 q156
       obtain rfl : ad146 = ad156 := (by injection e156)
       replace hx156_0 := (HB.out.cell (World.block_lt_of_cell? w _ hx156_0)).trans hx156_0
       replace hx156_1 := (HB.out.cell (World.block_lt_of_cell? w _ hx156_1)).trans hx156_1
       replace hx156_2 := (HB.out.cell (World.block_lt_of_cell? w _ hx156_2)).trans hx156_2
       replace hx156_3 := (HB.out.cell (World.block_lt_of_cell? w _ hx156_3)).trans hx156_3
       have HR156_3 := Aside0.mk hi156_3
       have HC156_3 := Aside0.mk hl156_3
       clear hi156_3 hl156_3
       replace p156 := eq_true p156
       replace q156 := eq_true q156
       have ea_ := Option.some.inj (hx155_3.symm.trans hx156_3)
       injection ea_ with ea_ en_ ec_
       subst ea_
       subst ec_
       clear en_
       obtain ⟨⟨hcz62_0, hcz62_1, hcz62_2, hcz62_3⟩, hfz62_0, hfz62_1, hfz62_2, hfz62_3⟩ := blkC4 BK147.out
       go_wp2
       repeat (go_quiet (fail); try go_wp2)
       go_roundg kj45
       case measure => have := HJ1.out; have := HK2.out; have := HJ6.out; have := HJ16.out; have := HJ31.out; have := HJ45.out; omega
       case rel => exact ⟨(x3_6), (wrap64 (x4_2 + 1)), dq12, dq12, H', ⟨by have := HJ1.out; have := HK2.out; have := HJ6.out; have := HJ16.out; have := HJ31.out; have := HJ45.out; omega⟩, ⟨dq27⟩⟩

/-! ### spec_l11Steps: function 90 -/
mutual
def spec_l11Steps.j0 : Nat → ByteArray → Bool → Option (List ByteArray × Bool × Bool)
 | 0, _, _ => none
 | k + 1, x0, x5 => if x5 = true then (if 2 ≤ (x0.size : Int) then (spec_l11Steps.j1 k (x0.extract 2 x0.size) x5) else (none)) else (spec_l11Steps.j1 k x0 x5)
def spec_l11Steps.j1 : Nat → ByteArray → Bool → Option (List ByteArray × Bool × Bool)
 | 0, _, _ => none
 | k + 1, x0, x5 => spec_l11Steps.l0 k x0 x5 (([] : List ByteArray)) (⟨#[]⟩ : ByteArray) 0
def spec_l11Steps.l0 : Nat → ByteArray → Bool → List ByteArray → ByteArray → Int → Option (List ByteArray × Bool × Bool)
 | 0, _, _, _, _, _ => none
 | k + 1, x0, x5, x6, x7, x8 => if x8 ≤ (x0.size : Int) then (if x8 < (x0.size : Int) then (if 0 ≤ x8 then (spec_l11Steps.j3 k x0 x5 x6 x7 x8 ((bt x0 x8) != 47)) else (none)) else (spec_l11Steps.j3 k x0 x5 x6 x7 x8 false)) else (some (x6, x5, decide ((x6.length : Int) ≤ 6)))
def spec_l11Steps.j3 : Nat → ByteArray → Bool → List ByteArray → ByteArray → Int → Bool → Option (List ByteArray × Bool × Bool)
 | 0, _, _, _, _, _, _ => none
 | k + 1, x0, x5, x6, x7, x8, x36 => if x36 = true then (if 0 ≤ x8 then (if x8 ≤ (wrap64 (x8 + 1)) then (if (wrap64 (x8 + 1)) ≤ (x0.size : Int) then (if x7.size + (x0.extract (x8 : Int).toNat ((wrap64 (x8 + 1)) : Int).toNat).size ≤ 9223372036854775807 then (spec_l11Steps.l0 k x0 x5 x6 (x7 ++ (x0.extract (x8 : Int).toNat ((wrap64 (x8 + 1)) : Int).toNat)) (wrap64 (x8 + 1))) else (none)) else (none)) else (none)) else (none)) else ((spec_NameOk.f k x7).bind fun t162 => (if t162 = true then (if x6.length < 8796093022208 then (spec_l11Steps.l0 k x0 x5 (x6 ++ [x7]) (⟨#[]⟩ : ByteArray) (wrap64 (x8 + 1))) else (none)) else (some (([] : List ByteArray), false, false))))
end
def spec_l11Steps.f (k : Nat) (a0 : ByteArray) : Option (List ByteArray × Bool × Bool) := if (a0.size : Int) > 2 then (if 0 ≤ 2 then (if 2 ≤ (a0.size : Int) then (spec_l11Steps.j0 k a0 ((a0.extract 0 2).toList == ([47, 47] : List UInt8))) else (none)) else (none)) else (spec_l11Steps.j0 k a0 false)
set_option maxHeartbeats 8000000 in
set_option maxRecDepth 100000 in
theorem spec_l11Steps.calls (k : Nat) (a0 : ByteArray) (r1 : List ByteArray) (r2 : Bool) (r3 : Bool) (w : World) (h : spec_l11Steps.f k a0 = some (r1, r2, r3)) :
  Calls Tryz.prog 90 #[.string a0] w fun e w' => ∃ v0_ : Value, e = .returned (.tuple #[v0_, .bool r2, .bool r3]) ∧ Kd.R Kd.string 9 w' w.heap.size (fun _ => True) v0_ r1 ∧ Below w.heap.size w w' := by
 have HB := Aside0.mk (Below.refl w.heap.size w)
 have H : (if (a0.size : Int) > 2 then (if 0 ≤ 2 then (if 2 ≤ (a0.size : Int) then (spec_l11Steps.j0 k a0 ((a0.extract 0 2).toList == ([47, 47] : List UInt8))) else (none)) else (none)) else (spec_l11Steps.j0 k a0 false)) = some (r1, r2, r3) := h
 clear h
 have HC2 := Aside0.mk H
 clear H
 go_enter Tryz.func90, Tryz.ntmps90
 go_upto_region 1 with (fail)
 go_cut [5] (fun v5 wc => ∃ (kq : Nat) (x5_1 : Bool), v5 = .bool x5_1 ∧ Aside0 (spec_l11Steps.j0 kq a0 x5_1 = some (r1, r2, r3)) ∧ Aside0 (kq ≤ k) ∧ Aside0 (Below w.heap.size w wc))
 case first =>
  have H := HC2.out
  clear HC2
  by_cases c3 : (a0.size : Int) > 2
  rotate_left
  ·rw [if_neg c3] at H
   have c3b0 : decide (2 < (a0.size : Int)) = false := decide_eq_false c3
   have c3b1 : decide (2 < a0.size) = false := decide_eq_false dq20
   clear c3
   (first | rw [c3b0] | (simp only [i64_w, i32_w]; rw [c3b0]) | skip)
   have H' := Aside0.mk H
   clear H
   go_wp2
   go_meet
   case rel => exact ⟨_, (false), dq12, H', ⟨dq21⟩, ⟨dq9⟩⟩
  rw [if_pos c3] at H
  have c3b0 : decide (2 < (a0.size : Int)) = true := decide_eq_true c3
  have c3b1 : decide (2 < a0.size) = true := decide_eq_true dq20
  clear c3
  (first | rw [c3b0] | (simp only [i64_w, i32_w]; rw [c3b0]) | skip)
  by_cases c4 : 0 ≤ 2
  rotate_left
  ·rw [if_neg c4] at H
   exact absurd H dq17
  rw [if_pos c4] at H
  have c4b0 := eq_true c4
  have c4b1 := decide_eq_true c4
  clear c4
  by_cases c5 : 2 ≤ (a0.size : Int)
  rotate_left
  ·rw [if_neg c5] at H
   exact absurd H dq17
  rw [if_pos c5] at H
  have c5b0 := eq_true c5
  have c5b1 := decide_eq_true c5
  clear c5
  have H' := Aside0.mk H
  clear H
  go_wp2
  go_meet
  case rel => exact ⟨_, (((a0.extract 0 2).toList == ([47, 47] : List UInt8))), dq12, H', ⟨dq21⟩, ⟨dq9⟩⟩
 clear HC2
 obtain ⟨kq, x5_1, rfl, HA, HJ1, HB⟩ := hcut
 cases kq with
 | zero => exact absurd HA.out (by simp [spec_l11Steps.j0])
 | succ kj1 =>
  have H := HA.out
  clear HA
  simp only [spec_l11Steps.j0] at H
  have HC6 := Aside0.mk H
  clear H
  go_upto_if 17 with (fail)
  go_cut [0] (fun v0 wc => ∃ (kq : Nat) (x0_5 : ByteArray), v0 = .string x0_5 ∧ Aside0 (spec_l11Steps.j1 kq x0_5 x5_1 = some (r1, r2, r3)) ∧ Aside0 (kq ≤ kj1) ∧ Aside0 (Below w.heap.size w wc))
  case first =>
   have H := HC6.out
   clear HC6
   by_cases c7 : x5_1 = true
   rotate_left
   ·replace c7 := Bool.eq_false_iff.mpr c7
    subst c7
    have H1 : (spec_l11Steps.j1 kj1 a0 false) = some (r1, r2, r3) := by rw [if_neg (show ¬ (false = true) by decide)] at H; exact H
    clear H
    have H := H1
    clear H1
    have H' := Aside0.mk H
    clear H
    go_wp2
    go_meet
    case rel => exact ⟨_, (a0), dq12, H', ⟨by have := HJ1.out; first | omega | exact Nat.le_refl _⟩, ⟨dq9⟩⟩
   subst c7
   have H1 : (if 2 ≤ (a0.size : Int) then (spec_l11Steps.j1 kj1 (a0.extract 2 a0.size) true) else (none)) = some (r1, r2, r3) := by rw [if_pos rfl] at H; exact H
   clear H
   have H := H1
   clear H1
   by_cases c8 : 2 ≤ (a0.size : Int)
   rotate_left
   ·rw [if_neg c8] at H
    exact absurd H dq17
   rw [if_pos c8] at H
   have c8b0 := eq_true c8
   have c8b1 := decide_eq_true c8
   clear c8
   have H' := Aside0.mk H
   clear H
   go_wp2
   go_meet
   case rel => exact ⟨_, (a0.extract 2 a0.size), dq12, H', ⟨by have := HJ1.out; first | omega | exact Nat.le_refl _⟩, ⟨dq9⟩⟩
  clear HC6
  obtain ⟨kq, x0_5, rfl, HA, HJ5, HB⟩ := hcut
  cases kq with
  | zero => exact absurd HA.out (by simp [spec_l11Steps.j1])
  | succ kj5 =>
   have H := HA.out
   clear HA
   simp only [spec_l11Steps.j1] at H
   obtain ⟨y159, hy159⟩ : ∃ y_ : List ByteArray, y_ = (([] : List ByteArray)) := ⟨_, rfl⟩
   replace H : (spec_l11Steps.l0 kj5 x0_5 x5_1 y159 (⟨#[]⟩ : ByteArray) 0) = some (r1, r2, r3) := by first | (rw [hy159]; with_reducible exact H) | (have H2_ := (Option.bind_some _ _).symm.trans H; rw [hy159]; with_reducible exact H2_) | (have H2_ := (Option.bind_some _ _).symm.trans H; with_reducible exact H2_) | with_reducible exact H | (rw [hy159]; exact H) | exact H
   have Ny159 := Aside0.mk hy159
   clear hy159
   have H' := Aside0.mk H
   clear H
   go_wp2_with (first | ((with_reducible refine gate_dst (N := 20) rfl ?_); refine Kd.R_lit Kd.string _ 9 ?hg (N := 20) ?hd (xs := ([] : List ByteArray)) (inner := []) (ok := fun _ => True) (okp := fun _ => True) ?hr ?hp (fun _ hk => hk) trivial (Below.refl _ _) (Nat.le_refl _) dq17 ?_; (case hd => rfl); (case hg => rfl); (case hr => exact dq0); (case hp => exact (Reps.none _ _)); intro v160 w9 ho10 hb hg_ hnew_; clear hg_ hnew_; (first | rw [← Ny159.out] at ho10 | (simp only [Int.reduceToNat] at ho10; rw [← Ny159.out] at ho10)); have n0_ := Aside0.mk (Kd.R_lower ho10 (below_size dq9)); have n1_ := Aside0.mk (below_step dq9 hb); clear HB; have HO161 := n0_; have HB := n1_; clear n0_ n1_; clear hb ho10))
   go_loopg [6, 7, 8] kj5 (fun kq v6 v7 v8 w' => ∃ (x6_3 : List ByteArray) (x7_3 : ByteArray) (x8_3 : Int), v7 = .string x7_3 ∧ v8 = .int .i64 x8_3 ∧ Aside0 (spec_l11Steps.l0 kq x0_5 x5_1 x6_3 x7_3 x8_3 = some (r1, r2, r3)) ∧ Aside0 (kq ≤ kj5) ∧ Aside0 (Kd.R Kd.string 9 w' w.heap.size (fun _ => True) v6 x6_3) ∧ Aside0 (Below w.heap.size w w'))
   case atStart => exact ⟨(y159), ((⟨#[]⟩ : ByteArray)), (0), dq12, dq12, H', ⟨Nat.le_refl _⟩, ⟨by (with_reducible repeat (first | apply Kd.R_alloc | apply Kd.R_drewN | apply Kd.R_drew)); exact HO161.out⟩, ⟨dq9⟩⟩
   clear H'
   obtain ⟨x6_3, x7_3, x8_3, rfl, rfl, HA, HK3, HO_6, HB⟩ := hrel
   cases gk with
   | zero => exact absurd HA.out (by simp [spec_l11Steps.l0])
   | succ k3 =>
    have H := HA.out
    clear HA
    simp only [spec_l11Steps.l0] at H
    by_cases c11 : x8_3 ≤ (x0_5.size : Int)
    rotate_left
    ·rw [if_neg c11] at H
     have c11b0 := decide_eq_false c11
     clear c11
     simp only [Option.some.injEq, Prod.mk.injEq] at H
     obtain ⟨rfl, rfl, rfl⟩ := H
     obtain ⟨Ao25, co25, eo25⟩ := Kd.R_slice HO_6.out
     subst eo25
     go_wp2
     go_ret3
     exact ⟨_, dq11, dq31, dq9⟩
    rw [if_pos c11] at H
    have c11b0 := decide_eq_true c11
    clear c11
    have HC12 := Aside0.mk H
    clear H
    go_upto_region 9 with (fail)
    go_cut [36] (fun v36 wc => ∃ (kq : Nat) (x36_11 : Bool), v36 = .bool x36_11 ∧ Aside0 (spec_l11Steps.j3 kq x0_5 x5_1 x6_3 x7_3 x8_3 x36_11 = some (r1, r2, r3)) ∧ Aside0 (kq ≤ k3) ∧ Aside0 (Kd.R Kd.string 9 wc w.heap.size (fun _ => True) u6 x6_3) ∧ Aside0 (Below w.heap.size w wc))
    case first =>
     have H := HC12.out
     clear HC12
     by_cases c13 : x8_3 < (x0_5.size : Int)
     rotate_left
     ·rw [if_neg c13] at H
      have c13b0 := decide_eq_false c13
      clear c13
      (first | rw [c13b0] | (simp only [i64_w, i32_w]; rw [c13b0]) | skip)
      have H' := Aside0.mk H
      clear H
      go_wp2
      go_meet
      case rel => exact ⟨_, (false), dq12, H', ⟨by have := HJ1.out; have := HJ5.out; have := HK3.out; first | omega | exact Nat.le_refl _⟩, ⟨dq31⟩, ⟨dq9⟩⟩
     rw [if_pos c13] at H
     have c13b0 := decide_eq_true c13
     clear c13
     (first | rw [c13b0] | (simp only [i64_w, i32_w]; rw [c13b0]) | skip)
     by_cases c14 : 0 ≤ x8_3
     rotate_left
     ·rw [if_neg c14] at H
      exact absurd H dq17
     rw [if_pos c14] at H
     have c14b0 := decide_eq_true c14
     clear c14
     have H' := Aside0.mk H
     clear H
     have p15 : 0 ≤ (x8_3 : Int) := of_decide_eq_true dq13
     have q15 : x8_3 < (x0_5.size : Int) := of_decide_eq_true dq13
     have hx15 := bt_at x0_5 x8_3
     replace p15 := eq_true p15
     replace q15 := eq_true q15
     go_wp2
     go_meet
     case rel => exact ⟨_, (((bt x0_5 x8_3) != 47)), dq12, H', ⟨by have := HJ1.out; have := HJ5.out; have := HK3.out; first | omega | exact Nat.le_refl _⟩, ⟨dq31⟩, ⟨dq9⟩⟩
    clear HC12
    try clear c11b0
    obtain ⟨kq, x36_11, rfl, HA, HJ11, HO_6, HB⟩ := hcut
    cases kq with
    | zero => exact absurd HA.out (by simp [spec_l11Steps.j3])
    | succ kj11 =>
     have H := HA.out
     clear HA
     simp only [spec_l11Steps.j3] at H
     by_cases c16 : x36_11 = true
     ·subst c16
      have H1 : (if 0 ≤ x8_3 then (if x8_3 ≤ (wrap64 (x8_3 + 1)) then (if (wrap64 (x8_3 + 1)) ≤ (x0_5.size : Int) then (if x7_3.size + (x0_5.extract (x8_3 : Int).toNat ((wrap64 (x8_3 + 1)) : Int).toNat).size ≤ 9223372036854775807 then (spec_l11Steps.l0 kj11 x0_5 x5_1 x6_3 (x7_3 ++ (x0_5.extract (x8_3 : Int).toNat ((wrap64 (x8_3 + 1)) : Int).toNat)) (wrap64 (x8_3 + 1))) else (none)) else (none)) else (none)) else (none)) = some (r1, r2, r3) := by rw [if_pos rfl] at H; exact H
      clear H
      have H := H1
      clear H1
      by_cases c17 : 0 ≤ x8_3
      rotate_left
      ·rw [if_neg c17] at H
       exact absurd H dq17
      rw [if_pos c17] at H
      have c17b0 := eq_true c17
      have c17b1 := decide_eq_true c17
      clear c17
      by_cases c18 : x8_3 ≤ (wrap64 (x8_3 + 1))
      rotate_left
      ·rw [if_neg c18] at H
       exact absurd H dq17
      rw [if_pos c18] at H
      have c18b0 := eq_true c18
      have c18b1 := decide_eq_true c18
      by_cases c19 : (wrap64 (x8_3 + 1)) ≤ (x0_5.size : Int)
      rotate_left
      ·rw [if_neg c19] at H
       exact absurd H dq17
      rw [if_pos c19] at H
      have c19b0 := eq_true c19
      have c19b1 := decide_eq_true c19
      by_cases c20 : x7_3.size + (x0_5.extract (x8_3 : Int).toNat ((wrap64 (x8_3 + 1)) : Int).toNat).size ≤ 9223372036854775807
      rotate_left
      ·rw [if_neg c20] at H
       exact absurd H dq17
      rw [if_pos c20] at H
      have c20b0 := eq_true c20
      have c20b1 := decide_eq_true c20
      try have c20b2 : (9223372036854775807 < x7_3.size + (x0_5.extract (x8_3 : Int).toNat ((wrap64 (x8_3 + 1)) : Int).toNat).size) = False := eq_false (Nat.not_lt.2 c20)
      have H' := Aside0.mk H
      clear H
      go_wp2
      go_roundg kj11
      case measure => have := HJ1.out; have := HJ5.out; have := HK3.out; have := HJ11.out; omega
      case rel => exact ⟨(x6_3), (x7_3 ++ (x0_5.extract (x8_3 : Int).toNat ((wrap64 (x8_3 + 1)) : Int).toNat)), (wrap64 (x8_3 + 1)), dq12, dq12, H', ⟨by have := HJ1.out; have := HJ5.out; have := HK3.out; have := HJ11.out; omega⟩, ⟨dq31⟩, ⟨dq9⟩⟩
     replace c16 := Bool.eq_false_iff.mpr c16
     subst c16
     have H1 : ((spec_NameOk.f kj11 x7_3).bind fun t162 => (if t162 = true then (if x6_3.length < 8796093022208 then (spec_l11Steps.l0 kj11 x0_5 x5_1 (x6_3 ++ [x7_3]) (⟨#[]⟩ : ByteArray) (wrap64 (x8_3 + 1))) else (none)) else (some (([] : List ByteArray), false, false)))) = some (r1, r2, r3) := by rw [if_neg (show ¬ (false = true) by decide)] at H; exact H
     clear H
     have H := H1
     clear H1
     replace H := Option.bind_eq_some_iff.mp H
     obtain ⟨t162, A210, H⟩ := H
     replace H : (if t162 = true then (if x6_3.length < 8796093022208 then (spec_l11Steps.l0 kj11 x0_5 x5_1 (x6_3 ++ [x7_3]) (⟨#[]⟩ : ByteArray) (wrap64 (x8_3 + 1))) else (none)) else (some (([] : List ByteArray), false, false))) = some (r1, r2, r3) := H
     have A21 := Aside0.mk A210
     clear A210
     by_cases c22 : t162 = true
     rotate_left
     ·replace c22 := Bool.eq_false_iff.mpr c22
      subst c22
      have H1 : (some (([] : List ByteArray), false, false)) = some (r1, r2, r3) := by rw [if_neg (show ¬ (false = true) by decide)] at H; exact H
      clear H
      have H := H1
      clear H1
      simp only [Option.some.injEq, Prod.mk.injEq] at H
      obtain ⟨rfl, rfl, rfl⟩ := H
      go_wp2_with (first | ((with_reducible refine gate_callee (f := 83) rfl ?_); refine goesL_ (some 45) rfl rfl Tryz.func83 dq15 rfl #[.string x7_3] rfl dq14 ?_; (with_reducible refine (spec_NameOk.calls kj11 x7_3 false _ A21.out).mono ?_); rintro e w' ⟨rfl, ⟨nd, rfl⟩⟩; refine ⟨_, rfl, ?_⟩))
      go_ret3
      exact ⟨_, dq11, dq22, dq9⟩
     subst c22
     have H1 : (if x6_3.length < 8796093022208 then (spec_l11Steps.l0 kj11 x0_5 x5_1 (x6_3 ++ [x7_3]) (⟨#[]⟩ : ByteArray) (wrap64 (x8_3 + 1))) else (none)) = some (r1, r2, r3) := by rw [if_pos rfl] at H; exact H
     clear H
     have H := H1
     clear H1
     by_cases c23 : x6_3.length < 8796093022208
     rotate_left
     ·rw [if_neg c23] at H
      exact absurd H dq17
     rw [if_pos c23] at H
     have LMc23 := Aside0.mk c23
     clear c23
     obtain ⟨y163, hy163⟩ : ∃ y_ : List ByteArray, y_ = (x6_3 ++ [x7_3]) := ⟨_, rfl⟩
     replace H : (spec_l11Steps.l0 kj11 x0_5 x5_1 y163 (⟨#[]⟩ : ByteArray) (wrap64 (x8_3 + 1))) = some (r1, r2, r3) := by first | (rw [hy163]; with_reducible exact H) | (have H2_ := (Option.bind_some _ _).symm.trans H; rw [hy163]; with_reducible exact H2_) | (have H2_ := (Option.bind_some _ _).symm.trans H; with_reducible exact H2_) | with_reducible exact H | (rw [hy163]; exact H) | exact H
     have Ny163 := Aside0.mk hy163
     clear hy163
     have H' := Aside0.mk H
     clear H
     go_wp2_with (first | ((with_reducible refine gate_callee (f := 83) rfl ?_); refine goesL_ (some 45) rfl rfl Tryz.func83 dq15 rfl #[.string x7_3] rfl dq14 ?_; (with_reducible refine (spec_NameOk.calls kj11 x7_3 true _ A21.out).mono ?_); rintro e w' ⟨rfl, ⟨nd, rfl⟩⟩; refine ⟨_, rfl, ?_⟩) | ((with_reducible refine gate_builtin (b := .append) (xs := #[.tmp 47, .tmp 49]) rfl ?_); at_builtin; refine Kd.R_append Kd.string (w0 := w) w.heap.size rfl (.tmp 47) (.tmp 49) 30 9 (.string ⟨#[]⟩) 16 rfl Tryz.underlying30 info9 rfl dq24 dq20 u6 x6_3 x7_3 [.string x7_3] (fun _ => True) (fun _ => False) rfl rfl ?aP (fun _ hk => hk.elim) ?aF ?aO ?aB ?aS ?aL ?_; (case aP => exact rfl); (case aB => exact dq9); (case aF => exact (fun _ _ => trivial)); (case aO => exact dq31); (case aS => exact (below_size dq9)); (case aL => have := LMc23.out; omega); intro v164 w24 ho hb hg hat; rw [← Ny163.out] at ho; have n0_ := Aside0.mk (hb); have n1_ := Aside0.mk (ho); clear HB; clear HO_6; have HB := n0_; have HO165 := n1_; clear n0_ n1_; clear ho hb hg hat))
     go_roundg kj11
     case measure => have := HJ1.out; have := HJ5.out; have := HK3.out; have := HJ11.out; omega
     case rel => exact ⟨(y163), ((⟨#[]⟩ : ByteArray)), (wrap64 (x8_3 + 1)), dq12, dq12, H', ⟨by have := HJ1.out; have := HJ5.out; have := HK3.out; have := HJ11.out; omega⟩, ⟨by (with_reducible repeat (first | apply Kd.R_alloc | apply Kd.R_drewN | apply Kd.R_drew)); exact HO165.out⟩, ⟨dq9⟩⟩

/-! ### spec_l11Field: function 46 -/
def spec_l11Field.l0 : Nat → ByteArray → Int → Int → Option (ByteArray × ByteArray × Bool)
 | 0, _, _, _ => none
 | k + 1, x0, x5, x6 => if x6 < (x0.size : Int) then (if 0 ≤ x6 then (if (bt x0 x6) = 64 then (spec_l11Field.l0 k x0 x6 (wrap64 (x6 + 1))) else (spec_l11Field.l0 k x0 x5 (wrap64 (x6 + 1)))) else (none)) else (if x5 < 0 then ((spec_l11Steps.f k x0).bind fun bt166 => (if bt166.2.2 = true then (some (x0, (⟨#[]⟩ : ByteArray), !bt166.2.1)) else (some (x0, (⟨#[]⟩ : ByteArray), false)))) else (if 0 ≤ (wrap64 (x5 + 1)) then (if (wrap64 (x5 + 1)) ≤ (x0.size : Int) then ((spec_NameOk.f k (x0.extract ((wrap64 (x5 + 1)) : Int).toNat x0.size)).bind fun t171 => (if t171 = true then (if x5 = 0 then (some ((⟨#[]⟩ : ByteArray), x0.extract ((wrap64 (x5 + 1)) : Int).toNat x0.size, true)) else (if 0 ≤ (wrap64 (x5 - 1)) then (if (wrap64 (x5 - 1)) < (x0.size : Int) then (if (bt x0 (wrap64 (x5 - 1))) = 47 then (if (wrap64 (x5 - 1)) ≤ (x0.size : Int) then ((spec_l11Steps.f k (x0.extract 0 ((wrap64 (x5 - 1)) : Int).toNat)).bind fun bt172 => (if bt172.2.2 = true then (some (x0.extract 0 ((wrap64 (x5 - 1)) : Int).toNat, x0.extract ((wrap64 (x5 + 1)) : Int).toNat x0.size, !bt172.2.1)) else (some (x0.extract 0 ((wrap64 (x5 - 1)) : Int).toNat, x0.extract ((wrap64 (x5 + 1)) : Int).toNat x0.size, false)))) else (none)) else (some ((⟨#[]⟩ : ByteArray), (⟨#[]⟩ : ByteArray), false))) else (none)) else (none))) else (some ((⟨#[]⟩ : ByteArray), (⟨#[]⟩ : ByteArray), false)))) else (none)) else (none)))
def spec_l11Field.f (k : Nat) (a0 : ByteArray) : Option (ByteArray × ByteArray × Bool) := if a0.toList = ([46] : List UInt8) then (some ((⟨#[]⟩ : ByteArray), (⟨#[]⟩ : ByteArray), true)) else (spec_l11Field.l0 k a0 (-1) 0)
set_option maxHeartbeats 8000000 in
set_option maxRecDepth 100000 in
theorem spec_l11Field.calls (k : Nat) (a0 : ByteArray) (r1 : ByteArray) (r2 : ByteArray) (r3 : Bool) (w : World) (h : spec_l11Field.f k a0 = some (r1, r2, r3)) :
  Calls Tryz.prog 46 #[.string a0] w fun e w' => e = .returned (.tuple #[.string r1, .string r2, .bool r3]) ∧ Below w.heap.size w w' := by
 have HB := Aside0.mk (Below.refl w.heap.size w)
 have H : (if a0.toList = ([46] : List UInt8) then (some ((⟨#[]⟩ : ByteArray), (⟨#[]⟩ : ByteArray), true)) else (spec_l11Field.l0 k a0 (-1) 0)) = some (r1, r2, r3) := h
 clear h
 by_cases c2 : a0.toList = ([46] : List UInt8)
 ·rw [if_pos c2] at H
  have c2b0 := beq_iff_eq.mpr c2
  have c2b1 := bne_eq_false_iff_eq.mpr c2
  clear c2
  simp only [Option.some.injEq, Prod.mk.injEq] at H
  obtain ⟨rfl, rfl, rfl⟩ := H
  go_enter Tryz.func46, Tryz.ntmps46
  go_wp2
  go_ret3
  exact ⟨dq11, dq9⟩
 rw [if_neg c2] at H
 have c2b0 := beq_eq_false_iff_ne.mpr c2
 have c2b1 := bne_iff_ne.mpr c2
 have H' := Aside0.mk H
 clear H
 go_enter Tryz.func46, Tryz.ntmps46
 go_wp2
 go_loopg [5, 6] k (fun kq v5 v6 w' => ∃ (x5_1 : Int) (x6_1 : Int), v5 = .int .i64 x5_1 ∧ v6 = .int .i64 x6_1 ∧ Aside0 (spec_l11Field.l0 kq a0 x5_1 x6_1 = some (r1, r2, r3)) ∧ Aside0 (kq ≤ k) ∧ Aside0 (Below w.heap.size w w'))
 case atStart => exact ⟨((-1)), (0), dq12, dq12, H', ⟨Nat.le_refl _⟩, ⟨dq9⟩⟩
 clear H'
 try clear c2
 try clear c2b0
 try clear c2b1
 obtain ⟨x5_1, x6_1, rfl, rfl, HA, HK1, HB⟩ := hrel
 cases gk with
 | zero => exact absurd HA.out (by simp [spec_l11Field.l0])
 | succ k1 =>
  have H := HA.out
  clear HA
  simp only [spec_l11Field.l0] at H
  by_cases c3 : x6_1 < (a0.size : Int)
  ·rw [if_pos c3] at H
   have c3b0 := decide_eq_true c3
   clear c3
   by_cases c4 : 0 ≤ x6_1
   rotate_left
   ·rw [if_neg c4] at H
    exact absurd H dq17
   rw [if_pos c4] at H
   have c4b0 := decide_eq_true c4
   clear c4
   by_cases c6 : (bt a0 x6_1) = 64
   rotate_left
   ·rw [if_neg c6] at H
    have c6b0 := beq_eq_false_iff_ne.mpr c6
    have c6b1 := bne_iff_ne.mpr c6
    have H' := Aside0.mk H
    clear H
    have p5 : 0 ≤ (x6_1 : Int) := of_decide_eq_true dq13
    have q5 : x6_1 < (a0.size : Int) := of_decide_eq_true dq13
    have hx5 := bt_at a0 x6_1
    replace p5 := eq_true p5
    replace q5 := eq_true q5
    go_wp2
    go_roundg k1
    case measure => have := HK1.out; omega
    case rel => exact ⟨(x5_1), (wrap64 (x6_1 + 1)), dq12, dq12, H', ⟨dq16⟩, ⟨dq9⟩⟩
   rw [if_pos c6] at H
   have c6b0 := beq_iff_eq.mpr c6
   have c6b1 := bne_eq_false_iff_eq.mpr c6
   clear c6
   have H' := Aside0.mk H
   clear H
   have p5 : 0 ≤ (x6_1 : Int) := of_decide_eq_true dq13
   have q5 : x6_1 < (a0.size : Int) := of_decide_eq_true dq13
   have hx5 := bt_at a0 x6_1
   replace p5 := eq_true p5
   replace q5 := eq_true q5
   go_wp2
   go_roundg k1
   case measure => have := HK1.out; omega
   case rel => exact ⟨(x6_1), (wrap64 (x6_1 + 1)), dq12, dq12, H', ⟨dq16⟩, ⟨dq9⟩⟩
  rw [if_neg c3] at H
  have c3b0 := decide_eq_false c3
  clear c3
  by_cases c7 : x5_1 < 0
  ·rw [if_pos c7] at H
   have c7b0 := decide_eq_true c7
   clear c7
   replace H := Option.bind_eq_some_iff.mp H
   obtain ⟨⟨t166, t167, t168⟩, A80, H⟩ := H
   replace H : (if t168 = true then (some (a0, (⟨#[]⟩ : ByteArray), !t167)) else (some (a0, (⟨#[]⟩ : ByteArray), false))) = some (r1, r2, r3) := H
   have A8 := Aside0.mk A80
   clear A80
   by_cases c9 : t168 = true
   ·subst c9
    have H1 : (some (a0, (⟨#[]⟩ : ByteArray), !t167)) = some (r1, r2, r3) := by rw [if_pos rfl] at H; exact H
    clear H
    have H := H1
    clear H1
    simp only [Option.some.injEq, Prod.mk.injEq] at H
    obtain ⟨rfl, rfl, rfl⟩ := H
    go_wp2_with (first | ((with_reducible refine gate_callee (f := 90) rfl ?_); refine goesL_ (some 31) rfl rfl Tryz.func90 dq15 rfl #[.string a0] rfl dq14 ?_; (with_reducible refine (spec_l11Steps.calls k1 a0 t166 t167 true _ A8.out).mono ?_); rintro e w10 ⟨v169, rfl, ho0, hb⟩; refine ⟨_, rfl, ?_⟩; have n0_ := Aside0.mk (Kd.R_lower ho0 (below_size dq9)); have n1_ := Aside0.mk (below_step dq9 hb); clear HB; have HO170 := n0_; have HB := n1_; clear n0_ n1_; (try clear hb); (try clear hb2); (try clear hk); (try clear hi); (try clear ho0)))
    go_ret3
    exact ⟨dq11, dq9⟩
   replace c9 := Bool.eq_false_iff.mpr c9
   subst c9
   have H1 : (some (a0, (⟨#[]⟩ : ByteArray), false)) = some (r1, r2, r3) := by rw [if_neg (show ¬ (false = true) by decide)] at H; exact H
   clear H
   have H := H1
   clear H1
   simp only [Option.some.injEq, Prod.mk.injEq] at H
   obtain ⟨rfl, rfl, rfl⟩ := H
   go_wp2_with (first | ((with_reducible refine gate_callee (f := 90) rfl ?_); refine goesL_ (some 31) rfl rfl Tryz.func90 dq15 rfl #[.string a0] rfl dq14 ?_; (with_reducible refine (spec_l11Steps.calls k1 a0 t166 t167 false _ A8.out).mono ?_); rintro e w11 ⟨v169, rfl, ho0, hb⟩; refine ⟨_, rfl, ?_⟩; have n0_ := Aside0.mk (Kd.R_lower ho0 (below_size dq9)); have n1_ := Aside0.mk (below_step dq9 hb); clear HB; have HO170 := n0_; have HB := n1_; clear n0_ n1_; (try clear hb); (try clear hb2); (try clear hk); (try clear hi); (try clear ho0)))
   go_ret3
   exact ⟨dq11, dq9⟩
  rw [if_neg c7] at H
  have c7b0 := decide_eq_false c7
  clear c7
  obtain ⟨ji12, hji12⟩ : ∃ j_ : Int, (wrap64 (x5_1 + 1)) = j_ := ⟨_, rfl⟩
  replace H : (if 0 ≤ (ji12) then (if (ji12) ≤ (a0.size : Int) then ((spec_NameOk.f k1 (a0.extract ((ji12) : Int).toNat a0.size)).bind fun t171 => (if t171 = true then (if x5_1 = 0 then (some ((⟨#[]⟩ : ByteArray), a0.extract ((ji12) : Int).toNat a0.size, true)) else (if 0 ≤ (wrap64 (x5_1 - 1)) then (if (wrap64 (x5_1 - 1)) < (a0.size : Int) then (if (bt a0 (wrap64 (x5_1 - 1))) = 47 then (if (wrap64 (x5_1 - 1)) ≤ (a0.size : Int) then ((spec_l11Steps.f k1 (a0.extract 0 ((wrap64 (x5_1 - 1)) : Int).toNat)).bind fun bt172 => (if bt172.2.2 = true then (some (a0.extract 0 ((wrap64 (x5_1 - 1)) : Int).toNat, a0.extract ((ji12) : Int).toNat a0.size, !bt172.2.1)) else (some (a0.extract 0 ((wrap64 (x5_1 - 1)) : Int).toNat, a0.extract ((ji12) : Int).toNat a0.size, false)))) else (none)) else (some ((⟨#[]⟩ : ByteArray), (⟨#[]⟩ : ByteArray), false))) else (none)) else (none))) else (some ((⟨#[]⟩ : ByteArray), (⟨#[]⟩ : ByteArray), false)))) else (none)) else (none)) = some (r1, r2, r3) := by first | (rw [hji12] at H; exact H) | (simp only [hji12] at H ⊢; exact H)
  have hji12w : (IntKind.i64.wrap (x5_1 + 1)) = ji12 := (i64_w _).trans hji12
  by_cases c13 : 0 ≤ (ji12)
  rotate_left
  ·rw [if_neg c13] at H
   exact absurd H dq17
  rw [if_pos c13] at H
  have c13b0 := eq_true c13
  have c13b1 := decide_eq_true c13
  clear c13
  by_cases c14 : (ji12) ≤ (a0.size : Int)
  rotate_left
  ·rw [if_neg c14] at H
   exact absurd H dq17
  rw [if_pos c14] at H
  have c14b0 := eq_true c14
  have c14b1 := decide_eq_true c14
  clear c14
  replace H := Option.bind_eq_some_iff.mp H
  obtain ⟨t171, A150, H⟩ := H
  replace H : (if t171 = true then (if x5_1 = 0 then (some ((⟨#[]⟩ : ByteArray), a0.extract ((ji12) : Int).toNat a0.size, true)) else (if 0 ≤ (wrap64 (x5_1 - 1)) then (if (wrap64 (x5_1 - 1)) < (a0.size : Int) then (if (bt a0 (wrap64 (x5_1 - 1))) = 47 then (if (wrap64 (x5_1 - 1)) ≤ (a0.size : Int) then ((spec_l11Steps.f k1 (a0.extract 0 ((wrap64 (x5_1 - 1)) : Int).toNat)).bind fun bt172 => (if bt172.2.2 = true then (some (a0.extract 0 ((wrap64 (x5_1 - 1)) : Int).toNat, a0.extract ((ji12) : Int).toNat a0.size, !bt172.2.1)) else (some (a0.extract 0 ((wrap64 (x5_1 - 1)) : Int).toNat, a0.extract ((ji12) : Int).toNat a0.size, false)))) else (none)) else (some ((⟨#[]⟩ : ByteArray), (⟨#[]⟩ : ByteArray), false))) else (none)) else (none))) else (some ((⟨#[]⟩ : ByteArray), (⟨#[]⟩ : ByteArray), false))) = some (r1, r2, r3) := H
  have A15 := Aside0.mk A150
  clear A150
  by_cases c16 : t171 = true
  rotate_left
  ·replace c16 := Bool.eq_false_iff.mpr c16
   subst c16
   have H1 : (some ((⟨#[]⟩ : ByteArray), (⟨#[]⟩ : ByteArray), false)) = some (r1, r2, r3) := by rw [if_neg (show ¬ (false = true) by decide)] at H; exact H
   clear H
   have H := H1
   clear H1
   simp only [Option.some.injEq, Prod.mk.injEq] at H
   obtain ⟨rfl, rfl, rfl⟩ := H
   go_wp2_with (first | ((with_reducible refine gate_callee (f := 83) rfl ?_); refine goesL_ (some 46) rfl rfl Tryz.func83 dq15 rfl #[.string (a0.extract ((ji12) : Int).toNat a0.size)] rfl dq32 ?_; (with_reducible refine (spec_NameOk.calls k1 (a0.extract ((ji12) : Int).toNat a0.size) false _ A15.out).mono ?_); rintro e w' ⟨rfl, ⟨nd, rfl⟩⟩; refine ⟨_, rfl, ?_⟩))
   go_ret3
   exact ⟨dq33, dq9⟩
  subst c16
  have H1 : (if x5_1 = 0 then (some ((⟨#[]⟩ : ByteArray), a0.extract ((ji12) : Int).toNat a0.size, true)) else (if 0 ≤ (wrap64 (x5_1 - 1)) then (if (wrap64 (x5_1 - 1)) < (a0.size : Int) then (if (bt a0 (wrap64 (x5_1 - 1))) = 47 then (if (wrap64 (x5_1 - 1)) ≤ (a0.size : Int) then ((spec_l11Steps.f k1 (a0.extract 0 ((wrap64 (x5_1 - 1)) : Int).toNat)).bind fun bt172 => (if bt172.2.2 = true then (some (a0.extract 0 ((wrap64 (x5_1 - 1)) : Int).toNat, a0.extract ((ji12) : Int).toNat a0.size, !bt172.2.1)) else (some (a0.extract 0 ((wrap64 (x5_1 - 1)) : Int).toNat, a0.extract ((ji12) : Int).toNat a0.size, false)))) else (none)) else (some ((⟨#[]⟩ : ByteArray), (⟨#[]⟩ : ByteArray), false))) else (none)) else (none))) = some (r1, r2, r3) := by rw [if_pos rfl] at H; exact H
  clear H
  have H := H1
  clear H1
  by_cases c17 : x5_1 = 0
  ·rw [if_pos c17] at H
   have c17b0 := beq_iff_eq.mpr c17
   have c17b1 := bne_eq_false_iff_eq.mpr c17
   clear c17
   simp only [Option.some.injEq, Prod.mk.injEq] at H
   obtain ⟨rfl, rfl, rfl⟩ := H
   go_wp2_with (first | ((with_reducible refine gate_callee (f := 83) rfl ?_); refine goesL_ (some 46) rfl rfl Tryz.func83 dq15 rfl #[.string (a0.extract ((ji12) : Int).toNat a0.size)] rfl dq32 ?_; (with_reducible refine (spec_NameOk.calls k1 (a0.extract ((ji12) : Int).toNat a0.size) true _ A15.out).mono ?_); rintro e w' ⟨rfl, ⟨nd, rfl⟩⟩; refine ⟨_, rfl, ?_⟩))
   go_ret3
   exact ⟨dq33, dq9⟩
  rw [if_neg c17] at H
  have c17b0 := beq_eq_false_iff_ne.mpr c17
  have c17b1 := bne_iff_ne.mpr c17
  obtain ⟨ji18, hji18⟩ : ∃ j_ : Int, (wrap64 (x5_1 - 1)) = j_ := ⟨_, rfl⟩
  replace H : (if 0 ≤ (ji18) then (if (ji18) < (a0.size : Int) then (if (bt a0 (ji18)) = 47 then (if (ji18) ≤ (a0.size : Int) then ((spec_l11Steps.f k1 (a0.extract 0 ((ji18) : Int).toNat)).bind fun bt172 => (if bt172.2.2 = true then (some (a0.extract 0 ((ji18) : Int).toNat, a0.extract ((ji12) : Int).toNat a0.size, !bt172.2.1)) else (some (a0.extract 0 ((ji18) : Int).toNat, a0.extract ((ji12) : Int).toNat a0.size, false)))) else (none)) else (some ((⟨#[]⟩ : ByteArray), (⟨#[]⟩ : ByteArray), false))) else (none)) else (none)) = some (r1, r2, r3) := by first | (rw [hji18] at H; exact H) | (simp only [hji18] at H ⊢; exact H)
  (try rw [hji18] at A15)
  have hji18w : (IntKind.i64.wrap (x5_1 - 1)) = ji18 := (i64_w _).trans hji18
  by_cases c19 : 0 ≤ (ji18)
  rotate_left
  ·rw [if_neg c19] at H
   exact absurd H dq17
  rw [if_pos c19] at H
  have c19b0 := decide_eq_true c19
  clear c19
  by_cases c20 : (ji18) < (a0.size : Int)
  rotate_left
  ·rw [if_neg c20] at H
   exact absurd H dq17
  rw [if_pos c20] at H
  have c20b0 := decide_eq_true c20
  clear c20
  by_cases c22 : (bt a0 (ji18)) = 47
  rotate_left
  ·rw [if_neg c22] at H
   have c22b0 := beq_eq_false_iff_ne.mpr c22
   have c22b1 := bne_iff_ne.mpr c22
   simp only [Option.some.injEq, Prod.mk.injEq] at H
   obtain ⟨rfl, rfl, rfl⟩ := H
   go_wp2_with (first | ((with_reducible refine gate_callee (f := 83) rfl ?_); refine goesL_ (some 46) rfl rfl Tryz.func83 dq15 rfl #[.string (a0.extract ((ji12) : Int).toNat a0.size)] rfl dq32 ?_; (with_reducible refine (spec_NameOk.calls k1 (a0.extract ((ji12) : Int).toNat a0.size) true _ A15.out).mono ?_); rintro e w' ⟨rfl, ⟨nd, rfl⟩⟩; refine ⟨_, rfl, ?_⟩; have p21 : 0 ≤ ((ji18) : Int) := of_decide_eq_true dq13; have q21 : (ji18) < (a0.size : Int) := of_decide_eq_true dq13; have hx21 := bt_at a0 (ji18); replace p21 := eq_true p21; replace q21 := eq_true q21))
   go_ret3
   exact ⟨dq35, dq9⟩
  rw [if_pos c22] at H
  have c22b0 := beq_iff_eq.mpr c22
  have c22b1 := bne_eq_false_iff_eq.mpr c22
  clear c22
  have c23b0 := eq_true (of_decide_eq_true dq13 : 0 ≤ (ji18))
  by_cases c24 : (ji18) ≤ (a0.size : Int)
  rotate_left
  ·rw [if_neg c24] at H
   exact absurd H dq17
  rw [if_pos c24] at H
  have c24b0 := eq_true c24
  have c24b1 := decide_eq_true c24
  clear c24
  replace H := Option.bind_eq_some_iff.mp H
  obtain ⟨⟨t172, t173, t174⟩, A250, H⟩ := H
  replace H : (if t174 = true then (some (a0.extract 0 ((ji18) : Int).toNat, a0.extract ((ji12) : Int).toNat a0.size, !t173)) else (some (a0.extract 0 ((ji18) : Int).toNat, a0.extract ((ji12) : Int).toNat a0.size, false))) = some (r1, r2, r3) := H
  have A25 := Aside0.mk A250
  clear A250
  have c26b0 := eq_true (of_decide_eq_true dq13 : 0 ≤ (ji18))
  have c27b0 := eq_true (of_decide_eq_true dq13 : (ji18) ≤ (a0.size : Int))
  by_cases c28 : t174 = true
  ·subst c28
   have H1 : (some (a0.extract 0 ((ji18) : Int).toNat, a0.extract ((ji12) : Int).toNat a0.size, !t173)) = some (r1, r2, r3) := by rw [if_pos rfl] at H; exact H
   clear H
   have H := H1
   clear H1
   simp only [Option.some.injEq, Prod.mk.injEq] at H
   obtain ⟨rfl, rfl, rfl⟩ := H
   go_wp2_with (first | ((with_reducible refine gate_callee (f := 83) rfl ?_); refine goesL_ (some 46) rfl rfl Tryz.func83 dq15 rfl #[.string (a0.extract ((ji12) : Int).toNat a0.size)] rfl dq32 ?_; (with_reducible refine (spec_NameOk.calls k1 (a0.extract ((ji12) : Int).toNat a0.size) true _ A15.out).mono ?_); rintro e w' ⟨rfl, ⟨nd, rfl⟩⟩; refine ⟨_, rfl, ?_⟩; have p21 : 0 ≤ ((ji18) : Int) := of_decide_eq_true dq13; have q21 : (ji18) < (a0.size : Int) := of_decide_eq_true dq13; have hx21 := bt_at a0 (ji18); replace p21 := eq_true p21; replace q21 := eq_true q21) | ((with_reducible refine gate_callee (f := 90) rfl ?_); refine goesL_ (some 61) rfl rfl Tryz.func90 dq15 rfl #[.string (a0.extract 0 ((ji18) : Int).toNat)] rfl dq34 ?_; (with_reducible refine (spec_l11Steps.calls k1 (a0.extract 0 ((ji18) : Int).toNat) t172 t173 true _ A25.out).mono ?_); rintro e w29 ⟨v175, rfl, ho0, hb⟩; refine ⟨_, rfl, ?_⟩; have n0_ := Aside0.mk (Kd.R_lower ho0 (below_size dq9)); have n1_ := Aside0.mk (below_step dq9 hb); clear HB; have HO176 := n0_; have HB := n1_; clear n0_ n1_; (try clear hb); (try clear hb2); (try clear hk); (try clear hi); (try clear ho0)))
   go_ret3
   exact ⟨dq35, dq9⟩
  replace c28 := Bool.eq_false_iff.mpr c28
  subst c28
  have H1 : (some (a0.extract 0 ((ji18) : Int).toNat, a0.extract ((ji12) : Int).toNat a0.size, false)) = some (r1, r2, r3) := by rw [if_neg (show ¬ (false = true) by decide)] at H; exact H
  clear H
  have H := H1
  clear H1
  simp only [Option.some.injEq, Prod.mk.injEq] at H
  obtain ⟨rfl, rfl, rfl⟩ := H
  go_wp2_with (first | ((with_reducible refine gate_callee (f := 83) rfl ?_); refine goesL_ (some 46) rfl rfl Tryz.func83 dq15 rfl #[.string (a0.extract ((ji12) : Int).toNat a0.size)] rfl dq32 ?_; (with_reducible refine (spec_NameOk.calls k1 (a0.extract ((ji12) : Int).toNat a0.size) true _ A15.out).mono ?_); rintro e w' ⟨rfl, ⟨nd, rfl⟩⟩; refine ⟨_, rfl, ?_⟩; have p21 : 0 ≤ ((ji18) : Int) := of_decide_eq_true dq13; have q21 : (ji18) < (a0.size : Int) := of_decide_eq_true dq13; have hx21 := bt_at a0 (ji18); replace p21 := eq_true p21; replace q21 := eq_true q21) | ((with_reducible refine gate_callee (f := 90) rfl ?_); refine goesL_ (some 61) rfl rfl Tryz.func90 dq15 rfl #[.string (a0.extract 0 ((ji18) : Int).toNat)] rfl dq34 ?_; (with_reducible refine (spec_l11Steps.calls k1 (a0.extract 0 ((ji18) : Int).toNat) t172 t173 false _ A25.out).mono ?_); rintro e w30 ⟨v175, rfl, ho0, hb⟩; refine ⟨_, rfl, ?_⟩; have n0_ := Aside0.mk (Kd.R_lower ho0 (below_size dq9)); have n1_ := Aside0.mk (below_step dq9 hb); clear HB; have HO176 := n0_; have HB := n1_; clear n0_ n1_; (try clear hb); (try clear hb2); (try clear hk); (try clear hi); (try clear ho0)))
  go_ret3
  exact ⟨dq35, dq9⟩

/-! ### spec_l2Kids: function 131 -/
def spec_l2Kids.l0 : Nat → List (S65) → Int → List Int → Int → Option (List Int)
 | 0, _, _, _, _ => none
 | k + 1, x0, x1, x5, x6 => if x6 < (x0.length : Int) then (if 0 ≤ x6 then (if ((rd_T65 x0 x6).f0) = x1 then (if x5.length < 17592186044416 then (spec_l2Kids.l0 k x0 x1 (x5 ++ [x6]) (wrap64 (x6 + 1))) else (none)) else (spec_l2Kids.l0 k x0 x1 x5 (wrap64 (x6 + 1)))) else (none)) else (some x5)
def spec_l2Kids.f (k : Nat) (l0 : List (S65)) (a1 : Int) : Option (List Int) := spec_l2Kids.l0 k l0 a1 (([] : List Int)) (wrap64 (a1 + 1))
set_option maxHeartbeats 8000000 in
set_option maxRecDepth 100000 in
theorem spec_l2Kids.calls (k : Nat) (A0 : Option Addr) (c0 : Nat) (l0 : List (S65)) (a1 : Int) (r : List Int) (w : World) (hr0 : Kd.C k65 w A0 l0.length l0) (hc0 : l0.length ≤ c0) (h : spec_l2Kids.f k l0 a1 = some r) :
  Calls Tryz.prog 131 #[.slice A0 l0.length c0, .int .i64 a1] w fun e w' => ∃ v0_ : Value, e = .returned (v0_) ∧ Kd.R (Kd.int .i64) 2 w' w.heap.size (fun _ => True) v0_ r ∧ Below w.heap.size w w' := by
 have HR0 := Aside0.mk hr0
 have HC0 := Aside0.mk hc0
 clear hr0 hc0
 have HB := Aside0.mk (Below.refl w.heap.size w)
 have H : (spec_l2Kids.l0 k l0 a1 (([] : List Int)) (wrap64 (a1 + 1))) = some r := h
 clear h
 obtain ⟨y177, hy177⟩ : ∃ y_ : List Int, y_ = (([] : List Int)) := ⟨_, rfl⟩
 replace H : (spec_l2Kids.l0 k l0 a1 y177 (wrap64 (a1 + 1))) = some r := by first | (rw [hy177]; with_reducible exact H) | (have H2_ := (Option.bind_some _ _).symm.trans H; rw [hy177]; with_reducible exact H2_) | (have H2_ := (Option.bind_some _ _).symm.trans H; with_reducible exact H2_) | with_reducible exact H | (rw [hy177]; exact H) | exact H
 have Ny177 := Aside0.mk hy177
 clear hy177
 have H' := Aside0.mk H
 clear H
 go_enter Tryz.func131, Tryz.ntmps131
 go_wp2_with (first | ((with_reducible refine gate_dst (N := 7) rfl ?_); refine Kd.R_lit (Kd.int .i64) _ 2 ?hg (N := 7) ?hd (xs := ([] : List Int)) (inner := []) (ok := fun _ => True) (okp := fun _ => True) ?hr ?hp (fun _ hk => hk) trivial (Below.refl _ _) (Nat.le_refl _) dq17 ?_; (case hd => rfl); (case hg => rfl); (case hr => exact dq0); (case hp => exact (Reps.none _ _)); intro v178 w3 ho4 hb hg_ hnew_; clear hg_ hnew_; (first | rw [← Ny177.out] at ho4 | (simp only [Int.reduceToNat] at ho4; rw [← Ny177.out] at ho4)); have n0_ := Aside0.mk (Kd.R_lower ho4 (below_size dq9)); have n1_ := Aside0.mk (below_step dq9 hb); clear HB; have HO179 := n0_; have HB := n1_; clear n0_ n1_; clear hb ho4))
 go_loopg [5, 6] k (fun kq v5 v6 w' => ∃ (x5_1 : List Int) (x6_1 : Int), v6 = .int .i64 x6_1 ∧ Aside0 (spec_l2Kids.l0 kq l0 a1 x5_1 x6_1 = some r) ∧ Aside0 (kq ≤ k) ∧ Aside0 (Kd.R (Kd.int .i64) 2 w' w.heap.size (fun _ => True) v5 x5_1) ∧ Aside0 (Below w.heap.size w w'))
 case atStart => exact ⟨(y177), (wrap64 (a1 + 1)), dq12, H', ⟨Nat.le_refl _⟩, ⟨by (with_reducible repeat (first | apply Kd.R_alloc | apply Kd.R_drewN | apply Kd.R_drew)); exact HO179.out⟩, ⟨dq9⟩⟩
 clear H'
 try clear c1
 try clear p2
 obtain ⟨x5_1, x6_1, rfl, HA, HK1, HO_5, HB⟩ := hrel
 cases gk with
 | zero => exact absurd HA.out (by simp [spec_l2Kids.l0])
 | succ k1 =>
  have H := HA.out
  clear HA
  simp only [spec_l2Kids.l0] at H
  by_cases c5 : x6_1 < (l0.length : Int)
  rotate_left
  ·rw [if_neg c5] at H
   have c5b0 := decide_eq_false c5
   clear c5
   obtain rfl := Option.some.inj H
   go_wp2
   go_ret
   exact ⟨_, dq11, dq36, dq9⟩
  rw [if_pos c5] at H
  have c5b0 := decide_eq_true c5
  clear c5
  by_cases c6 : 0 ≤ x6_1
  rotate_left
  ·rw [if_neg c6] at H
   exact absurd H dq17
  rw [if_pos c6] at H
  have c6b0 := decide_eq_true c6
  clear c6
  by_cases c7 : ((rd_T65 l0 x6_1).f0) = a1
  rotate_left
  ·rw [if_neg c7] at H
   have c7b0 := beq_eq_false_iff_ne.mpr c7
   have c7b1 := bne_iff_ne.mpr c7
   have H' := Aside0.mk H
   clear H
   have p180 : 0 ≤ (x6_1 : Int) := of_decide_eq_true dq13
   have q180 : x6_1 < (l0.length : Int) := of_decide_eq_true dq13
   obtain ⟨ad180, A180_3, c180_3, e180, hx180_0, hx180_1, hx180_2, hx180_3, hl180_3, hi180_3⟩ := at_T65 HR0.out x6_1 p180 q180
   cases e180
   replace hx180_0 := (HB.out.cell (World.block_lt_of_cell? w _ hx180_0)).trans hx180_0
   replace hx180_1 := (HB.out.cell (World.block_lt_of_cell? w _ hx180_1)).trans hx180_1
   replace hx180_2 := (HB.out.cell (World.block_lt_of_cell? w _ hx180_2)).trans hx180_2
   replace hx180_3 := (HB.out.cell (World.block_lt_of_cell? w _ hx180_3)).trans hx180_3
   have HR180_3 := Aside0.mk hi180_3
   have HC180_3 := Aside0.mk hl180_3
   clear hi180_3 hl180_3
   replace p180 := eq_true p180
   replace q180 := eq_true q180
   go_wp2
   go_roundg k1
   case measure => have := HK1.out; omega
   case rel => exact ⟨(x5_1), (wrap64 (x6_1 + 1)), dq12, H', ⟨dq16⟩, ⟨dq36⟩, ⟨dq9⟩⟩
  rw [if_pos c7] at H
  have c7b0 := beq_iff_eq.mpr c7
  have c7b1 := bne_eq_false_iff_eq.mpr c7
  clear c7
  by_cases c8 : x5_1.length < 17592186044416
  rotate_left
  ·rw [if_neg c8] at H
   exact absurd H dq17
  rw [if_pos c8] at H
  have LMc8 := Aside0.mk c8
  clear c8
  obtain ⟨y181, hy181⟩ : ∃ y_ : List Int, y_ = (x5_1 ++ [x6_1]) := ⟨_, rfl⟩
  replace H : (spec_l2Kids.l0 k1 l0 a1 y181 (wrap64 (x6_1 + 1))) = some r := by first | (rw [hy181]; with_reducible exact H) | (have H2_ := (Option.bind_some _ _).symm.trans H; rw [hy181]; with_reducible exact H2_) | (have H2_ := (Option.bind_some _ _).symm.trans H; with_reducible exact H2_) | with_reducible exact H | (rw [hy181]; exact H) | exact H
  have Ny181 := Aside0.mk hy181
  clear hy181
  have H' := Aside0.mk H
  clear H
  have p180 : 0 ≤ (x6_1 : Int) := of_decide_eq_true dq13
  have q180 : x6_1 < (l0.length : Int) := of_decide_eq_true dq13
  obtain ⟨ad180, A180_3, c180_3, e180, hx180_0, hx180_1, hx180_2, hx180_3, hl180_3, hi180_3⟩ := at_T65 HR0.out x6_1 p180 q180
  cases e180
  replace hx180_0 := (HB.out.cell (World.block_lt_of_cell? w _ hx180_0)).trans hx180_0
  replace hx180_1 := (HB.out.cell (World.block_lt_of_cell? w _ hx180_1)).trans hx180_1
  replace hx180_2 := (HB.out.cell (World.block_lt_of_cell? w _ hx180_2)).trans hx180_2
  replace hx180_3 := (HB.out.cell (World.block_lt_of_cell? w _ hx180_3)).trans hx180_3
  have HR180_3 := Aside0.mk hi180_3
  have HC180_3 := Aside0.mk hl180_3
  clear hi180_3 hl180_3
  replace p180 := eq_true p180
  replace q180 := eq_true q180
  go_wp2_with (first | ((with_reducible refine gate_builtin (b := .append) (xs := #[.tmp 23, .tmp 25]) rfl ?_); at_builtin; refine Kd.R_append (Kd.int .i64) (w0 := w) w.heap.size rfl (.tmp 23) (.tmp 25) 47 2 (.int .i64 0) 8 rfl Tryz.underlying47 info2 rfl dq24 dq20 u5 x5_1 x6_1 [.int .i64 x6_1] (fun _ => True) (fun _ => False) rfl rfl ?aP (fun _ hk => hk.elim) ?aF ?aO ?aB ?aS ?aL ?_; (case aP => exact rfl); (case aB => exact dq9); (case aF => exact (fun _ _ => trivial)); (case aO => exact dq36); (case aS => exact (below_size dq9)); (case aL => have := LMc8.out; omega); intro v182 w9 ho hb hg hat; rw [← Ny181.out] at ho; have n0_ := Aside0.mk (hb); have n1_ := Aside0.mk (ho); clear HB; clear HO_5; have HB := n0_; have HO183 := n1_; clear n0_ n1_; clear ho hb hg hat))
  go_roundg k1
  case measure => have := HK1.out; omega
  case rel => exact ⟨(y181), (wrap64 (x6_1 + 1)), dq12, H', ⟨dq16⟩, ⟨by (with_reducible repeat (first | apply Kd.R_alloc | apply Kd.R_drewN | apply Kd.R_drew)); exact HO183.out⟩, ⟨dq9⟩⟩

end Go.Proofs.YtpmjpbaeecnpiaaGreatDoor.L
