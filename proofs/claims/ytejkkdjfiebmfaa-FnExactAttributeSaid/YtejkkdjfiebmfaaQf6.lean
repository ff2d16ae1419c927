/- Words and contracts for the row RowFnExactAttribute: what the Go functions answer that it calls; printed by programs of the kit and of this session, and merged. -/
import Derived.Test.YtejkkdjfiebmfaaQf5
import Derived.Maps.RangeWalk
import Derived.Lib.Hide
import Derived.Outline
namespace Go.Proofs.Ytejkkdjfiebmfaa.L
open Go.RowKit Go.Proofs.YtejkkdjfiebmfaaW.PrintWords Go.Proofs.YtejkkdjfiebmfaaW.PrintLast Go.Proofs.YtejkkdjfiebmfaaW.PrintMore
attribute [local go_sem] max2_int min2_int max_two min_two max_three min_three max_four min_four
set_option linter.unusedVariables false
set_option linter.unusedSimpArgs false

/-! ### impl_NameOk: function 75 -/
def impl_NameOk.l0 : Nat → ByteArray → Int → Int → Option (Bool)
 | 0, _, _, _ => none
 | k + 1, x0, x7, x8 => if x8 < x7 then (if 0 ≤ x8 then (if x8 < (x0.size : Int) then (if (bt x0 x8) ≥ 97 then (if (bt x0 x8) ≤ 122 then (impl_NameOk.l0 k x0 x7 (wrap64 (x8 + 1))) else (if (bt x0 x8) ≥ 65 then (if (bt x0 x8) ≤ 90 then (impl_NameOk.l0 k x0 x7 (wrap64 (x8 + 1))) else (if ((bt x0 x8) = 95) then (impl_NameOk.l0 k x0 x7 (wrap64 (x8 + 1))) else (if x8 = 0 then (some false) else (if (bt x0 x8) ≥ 48 then (if ((bt x0 x8) ≤ 57) then (impl_NameOk.l0 k x0 x7 (wrap64 (x8 + 1))) else (if (bt x0 x8) = 46 then (impl_NameOk.l0 k x0 x7 (wrap64 (x8 + 1))) else (if (bt x0 x8) = 45 then (impl_NameOk.l0 k x0 x7 (wrap64 (x8 + 1))) else (some false)))) else (if (bt x0 x8) = 46 then (impl_NameOk.l0 k x0 x7 (wrap64 (x8 + 1))) else (if (bt x0 x8) = 45 then (impl_NameOk.l0 k x0 x7 (wrap64 (x8 + 1))) else (some false))))))) else (if ((bt x0 x8) = 95) then (impl_NameOk.l0 k x0 x7 (wrap64 (x8 + 1))) else (if x8 = 0 then (some false) else (if (bt x0 x8) ≥ 48 then (if ((bt x0 x8) ≤ 57) then (impl_NameOk.l0 k x0 x7 (wrap64 (x8 + 1))) else (if (bt x0 x8) = 46 then (impl_NameOk.l0 k x0 x7 (wrap64 (x8 + 1))) else (if (bt x0 x8) = 45 then (impl_NameOk.l0 k x0 x7 (wrap64 (x8 + 1))) else (some false)))) else (if (bt x0 x8) = 46 then (impl_NameOk.l0 k x0 x7 (wrap64 (x8 + 1))) else (if (bt x0 x8) = 45 then (impl_NameOk.l0 k x0 x7 (wrap64 (x8 + 1))) else (some false)))))))) else (if (bt x0 x8) ≥ 65 then (if (bt x0 x8) ≤ 90 then (impl_NameOk.l0 k x0 x7 (wrap64 (x8 + 1))) else (if ((bt x0 x8) = 95) then (impl_NameOk.l0 k x0 x7 (wrap64 (x8 + 1))) else (if x8 = 0 then (some false) else (if (bt x0 x8) ≥ 48 then (if ((bt x0 x8) ≤ 57) then (impl_NameOk.l0 k x0 x7 (wrap64 (x8 + 1))) else (if (bt x0 x8) = 46 then (impl_NameOk.l0 k x0 x7 (wrap64 (x8 + 1))) else (if (bt x0 x8) = 45 then (impl_NameOk.l0 k x0 x7 (wrap64 (x8 + 1))) else (some false)))) else (if (bt x0 x8) = 46 then (impl_NameOk.l0 k x0 x7 (wrap64 (x8 + 1))) else (if (bt x0 x8) = 45 then (impl_NameOk.l0 k x0 x7 (wrap64 (x8 + 1))) else (some false))))))) else (if ((bt x0 x8) = 95) then (impl_NameOk.l0 k x0 x7 (wrap64 (x8 + 1))) else (if x8 = 0 then (some false) else (if (bt x0 x8) ≥ 48 then (if ((bt x0 x8) ≤ 57) then (impl_NameOk.l0 k x0 x7 (wrap64 (x8 + 1))) else (if (bt x0 x8) = 46 then (impl_NameOk.l0 k x0 x7 (wrap64 (x8 + 1))) else (if (bt x0 x8) = 45 then (impl_NameOk.l0 k x0 x7 (wrap64 (x8 + 1))) else (some false)))) else (if (bt x0 x8) = 46 then (impl_NameOk.l0 k x0 x7 (wrap64 (x8 + 1))) else (if (bt x0 x8) = 45 then (impl_NameOk.l0 k x0 x7 (wrap64 (x8 + 1))) else (some false)))))))) else (none)) else (none)) else ((impl_in.f (x0.size : Int) 1 40).bind fun t232 => (some t232))
def impl_NameOk.f (k : Nat) (a0 : ByteArray) : Option (Bool) := impl_NameOk.l0 k a0 (a0.size : Int) 0
set_option maxHeartbeats 8000000 in
set_option maxRecDepth 100000 in
theorem impl_NameOk.calls (k : Nat) (a0 : ByteArray) (r : Bool) (w : World) (h : impl_NameOk.f k a0 = some r) :
  Calls Try.prog 75 #[.string a0] w fun e w' => e = .returned (.bool r) ∧ Drawn0 w w' := by
 have H : (impl_NameOk.l0 k a0 (a0.size : Int) 0) = some r := h
 clear h
 have H' := Aside0.mk H
 clear H
 go_enter Try.func75, Try.ntmps75
 go_wp2
 go_loopg [8] k (fun kq v8 w' => ∃ (x8_1 : Int), v8 = .int .i64 x8_1 ∧ Aside0 (impl_NameOk.l0 kq a0 (a0.size : Int) x8_1 = some r) ∧ Aside0 (kq ≤ k) ∧ Drawn0 w w')
 case atStart => exact ⟨(0), dq15, H', ⟨Nat.le_refl _⟩, dq14⟩
 clear H'
 obtain ⟨x8_1, rfl, HA, HK1, ⟨m1, rfl⟩⟩ := hrel
 cases gk with
 | zero => exact absurd HA.out (by simp [impl_NameOk.l0])
 | succ k1 =>
  have H := HA.out
  clear HA
  simp only [impl_NameOk.l0] at H
  by_cases c2 : x8_1 < (a0.size : Int)
  rotate_left
  ·rw [if_neg c2] at H
   have c2b0 := decide_eq_false c2
   clear c2
   replace H := Option.bind_eq_some_iff.mp H
   obtain ⟨t232, A440, H⟩ := H
   replace H : (some t232) = some r := H
   have A44 := Aside0.mk A440
   clear A440
   obtain rfl := Option.some.inj H
   go_wp2_with (first | ((with_reducible refine gate_callee (f := 47) rfl ?_); refine goesL_ (some 58) rfl rfl Try.func47 dq21 rfl #[.int .i64 (a0.size : Int), .int .i64 1, .int .i64 40] rfl dq20 ?_; (with_reducible refine (impl_in.calls (a0.size : Int) 1 40 t232 _ A44.out).mono ?_); rintro e w' ⟨rfl, ⟨nd, rfl⟩⟩; refine ⟨_, rfl, ?_⟩))
   go_ret
   exact ⟨dq15, dq14⟩
  rw [if_pos c2] at H
  have c2b0 := decide_eq_true c2
  clear c2
  by_cases c3 : 0 ≤ x8_1
  rotate_left
  ·rw [if_neg c3] at H
   exact absurd H dq24
  rw [if_pos c3] at H
  have c3b0 := decide_eq_true c3
  clear c3
  by_cases c4 : x8_1 < (a0.size : Int)
  rotate_left
  ·rw [if_neg c4] at H
   exact absurd H dq24
  rw [if_pos c4] at H
  have c4b0 := decide_eq_true c4
  clear c4
  by_cases c6 : (bt a0 x8_1) ≥ 97
  rotate_left
  ·rw [if_neg c6] at H
   have c6b0 : decide (97 ≤ (bt a0 x8_1)) = false := decide_eq_false c6
   clear c6
   by_cases c26 : (bt a0 x8_1) ≥ 65
   rotate_left
   ·rw [if_neg c26] at H
    have c26b0 : decide (65 ≤ (bt a0 x8_1)) = false := decide_eq_false c26
    clear c26
    by_cases c36 : ((bt a0 x8_1) = 95)
    ·rw [if_pos c36] at H
     have c36b0 : ((bt a0 x8_1) == 95) = true := beq_iff_eq.mpr c36
     have c36b1 : ((bt a0 x8_1) != 95) = false := bne_eq_false_iff_eq.mpr c36
     clear c36
     have H' := Aside0.mk H
     clear H
     have p5 : 0 ≤ (x8_1 : Int) := of_decide_eq_true dq22
     have q5 : x8_1 < (a0.size : Int) := of_decide_eq_true dq22
     have hx5 := bt_at a0 x8_1
     replace p5 := eq_true p5
     replace q5 := eq_true q5
     go_wp2
     go_roundg k1
     case measure => have := HK1.out; omega
     case rel => exact ⟨(wrap64 (x8_1 + 1)), dq15, H', ⟨dq23⟩, dq14⟩
    rw [if_neg c36] at H
    have c36b0 : ((bt a0 x8_1) == 95) = false := beq_eq_false_iff_ne.mpr c36
    have c36b1 : ((bt a0 x8_1) != 95) = true := bne_iff_ne.mpr c36
    by_cases c37 : x8_1 = 0
    ·rw [if_pos c37] at H
     have c37b0 := beq_iff_eq.mpr c37
     have c37b1 := bne_eq_false_iff_eq.mpr c37
     clear c37
     obtain rfl := Option.some.inj H
     have p5 : 0 ≤ (x8_1 : Int) := of_decide_eq_true dq22
     have q5 : x8_1 < (a0.size : Int) := of_decide_eq_true dq22
     have hx5 := bt_at a0 x8_1
     replace p5 := eq_true p5
     replace q5 := eq_true q5
     go_wp2
     go_ret
     exact ⟨dq15, dq14⟩
    rw [if_neg c37] at H
    have c37b0 := beq_eq_false_iff_ne.mpr c37
    have c37b1 := bne_iff_ne.mpr c37
    by_cases c38 : (bt a0 x8_1) ≥ 48
    rotate_left
    ·rw [if_neg c38] at H
     have c38b0 : decide (48 ≤ (bt a0 x8_1)) = false := decide_eq_false c38
     clear c38
     by_cases c42 : (bt a0 x8_1) = 46
     ·rw [if_pos c42] at H
      have c42b0 := beq_iff_eq.mpr c42
      have c42b1 := bne_eq_false_iff_eq.mpr c42
      clear c42
      have H' := Aside0.mk H
      clear H
      have p5 : 0 ≤ (x8_1 : Int) := of_decide_eq_true dq22
      have q5 : x8_1 < (a0.size : Int) := of_decide_eq_true dq22
      have hx5 := bt_at a0 x8_1
      replace p5 := eq_true p5
      replace q5 := eq_true q5
      go_wp2
      go_roundg k1
      case measure => have := HK1.out; omega
      case rel => exact ⟨(wrap64 (x8_1 + 1)), dq15, H', ⟨dq23⟩, dq14⟩
     rw [if_neg c42] at H
     have c42b0 := beq_eq_false_iff_ne.mpr c42
     have c42b1 := bne_iff_ne.mpr c42
     by_cases c43 : (bt a0 x8_1) = 45
     rotate_left
     ·rw [if_neg c43] at H
      have c43b0 := beq_eq_false_iff_ne.mpr c43
      have c43b1 := bne_iff_ne.mpr c43
      obtain rfl := Option.some.inj H
      have p5 : 0 ≤ (x8_1 : Int) := of_decide_eq_true dq22
      have q5 : x8_1 < (a0.size : Int) := of_decide_eq_true dq22
      have hx5 := bt_at a0 x8_1
      replace p5 := eq_true p5
      replace q5 := eq_true q5
      go_wp2
      go_ret
      exact ⟨dq15, dq14⟩
     rw [if_pos c43] at H
     have c43b0 := beq_iff_eq.mpr c43
     have c43b1 := bne_eq_false_iff_eq.mpr c43
     clear c43
     have H' := Aside0.mk H
     clear H
     have p5 : 0 ≤ (x8_1 : Int) := of_decide_eq_true dq22
     have q5 : x8_1 < (a0.size : Int) := of_decide_eq_true dq22
     have hx5 := bt_at a0 x8_1
     replace p5 := eq_true p5
     replace q5 := eq_true q5
     go_wp2
     go_roundg k1
     case measure => have := HK1.out; omega
     case rel => exact ⟨(wrap64 (x8_1 + 1)), dq15, H', ⟨dq23⟩, dq14⟩
    rw [if_pos c38] at H
    have c38b0 : decide (48 ≤ (bt a0 x8_1)) = true := decide_eq_true c38
    clear c38
    by_cases c39 : ((bt a0 x8_1) ≤ 57)
    ·rw [if_pos c39] at H
     have c39b0 : decide ((bt a0 x8_1) ≤ 57) = true := decide_eq_true c39
     clear c39
     have H' := Aside0.mk H
     clear H
     have p5 : 0 ≤ (x8_1 : Int) := of_decide_eq_true dq22
     have q5 : x8_1 < (a0.size : Int) := of_decide_eq_true dq22
     have hx5 := bt_at a0 x8_1
     replace p5 := eq_true p5
     replace q5 := eq_true q5
     go_wp2
     go_roundg k1
     case measure => have := HK1.out; omega
     case rel => exact ⟨(wrap64 (x8_1 + 1)), dq15, H', ⟨dq23⟩, dq14⟩
    rw [if_neg c39] at H
    have c39b0 : decide ((bt a0 x8_1) ≤ 57) = false := decide_eq_false c39
    clear c39
    by_cases c40 : (bt a0 x8_1) = 46
    ·rw [if_pos c40] at H
     have c40b0 := beq_iff_eq.mpr c40
     have c40b1 := bne_eq_false_iff_eq.mpr c40
     clear c40
     have H' := Aside0.mk H
     clear H
     have p5 : 0 ≤ (x8_1 : Int) := of_decide_eq_true dq22
     have q5 : x8_1 < (a0.size : Int) := of_decide_eq_true dq22
     have hx5 := bt_at a0 x8_1
     replace p5 := eq_true p5
     replace q5 := eq_true q5
     go_wp2
     go_roundg k1
     case measure => have := HK1.out; omega
     case rel => exact ⟨(wrap64 (x8_1 + 1)), dq15, H', ⟨dq23⟩, dq14⟩
    rw [if_neg c40] at H
    have c40b0 := beq_eq_false_iff_ne.mpr c40
    have c40b1 := bne_iff_ne.mpr c40
    by_cases c41 : (bt a0 x8_1) = 45
    rotate_left
    ·rw [if_neg c41] at H
     have c41b0 := beq_eq_false_iff_ne.mpr c41
     have c41b1 := bne_iff_ne.mpr c41
     obtain rfl := Option.some.inj H
     have p5 : 0 ≤ (x8_1 : Int) := of_decide_eq_true dq22
     have q5 : x8_1 < (a0.size : Int) := of_decide_eq_true dq22
     have hx5 := bt_at a0 x8_1
     replace p5 := eq_true p5
     replace q5 := eq_true q5
     go_wp2
     go_ret
     exact ⟨dq15, dq14⟩
    rw [if_pos c41] at H
    have c41b0 := beq_iff_eq.mpr c41
    have c41b1 := bne_eq_false_iff_eq.mpr c41
    clear c41
    have H' := Aside0.mk H
    clear H
    have p5 : 0 ≤ (x8_1 : Int) := of_decide_eq_true dq22
    have q5 : x8_1 < (a0.size : Int) := of_decide_eq_true dq22
    have hx5 := bt_at a0 x8_1
    replace p5 := eq_true p5
    replace q5 := eq_true q5
    go_wp2
    go_roundg k1
    case measure => have := HK1.out; omega
    case rel => exact ⟨(wrap64 (x8_1 + 1)), dq15, H', ⟨dq23⟩, dq14⟩
   rw [if_pos c26] at H
   have c26b0 : decide (65 ≤ (bt a0 x8_1)) = true := decide_eq_true c26
   clear c26
   by_cases c27 : (bt a0 x8_1) ≤ 90
   ·rw [if_pos c27] at H
    have c27b0 := decide_eq_true c27
    clear c27
    have H' := Aside0.mk H
    clear H
    have p5 : 0 ≤ (x8_1 : Int) := of_decide_eq_true dq22
    have q5 : x8_1 < (a0.size : Int) := of_decide_eq_true dq22
    have hx5 := bt_at a0 x8_1
    replace p5 := eq_true p5
    replace q5 := eq_true q5
    go_wp2
    go_roundg k1
    case measure => have := HK1.out; omega
    case rel => exact ⟨(wrap64 (x8_1 + 1)), dq15, H', ⟨dq23⟩, dq14⟩
   rw [if_neg c27] at H
   have c27b0 := decide_eq_false c27
   clear c27
   by_cases c28 : ((bt a0 x8_1) = 95)
   ·rw [if_pos c28] at H
    have c28b0 : ((bt a0 x8_1) == 95) = true := beq_iff_eq.mpr c28
    have c28b1 : ((bt a0 x8_1) != 95) = false := bne_eq_false_iff_eq.mpr c28
    clear c28
    have H' := Aside0.mk H
    clear H
    have p5 : 0 ≤ (x8_1 : Int) := of_decide_eq_true dq22
    have q5 : x8_1 < (a0.size : Int) := of_decide_eq_true dq22
    have hx5 := bt_at a0 x8_1
    replace p5 := eq_true p5
    replace q5 := eq_true q5
    go_wp2
    go_roundg k1
    case measure => have := HK1.out; omega
    case rel => exact ⟨(wrap64 (x8_1 + 1)), dq15, H', ⟨dq23⟩, dq14⟩
   rw [if_neg c28] at H
   have c28b0 : ((bt a0 x8_1) == 95) = false := beq_eq_false_iff_ne.mpr c28
   have c28b1 : ((bt a0 x8_1) != 95) = true := bne_iff_ne.mpr c28
   by_cases c29 : x8_1 = 0
   ·rw [if_pos c29] at H
    have c29b0 := beq_iff_eq.mpr c29
    have c29b1 := bne_eq_false_iff_eq.mpr c29
    clear c29
    obtain rfl := Option.some.inj H
    have p5 : 0 ≤ (x8_1 : Int) := of_decide_eq_true dq22
    have q5 : x8_1 < (a0.size : Int) := of_decide_eq_true dq22
    have hx5 := bt_at a0 x8_1
    replace p5 := eq_true p5
    replace q5 := eq_true q5
    go_wp2
    go_ret
    exact ⟨dq15, dq14⟩
   rw [if_neg c29] at H
   have c29b0 := beq_eq_false_iff_ne.mpr c29
   have c29b1 := bne_iff_ne.mpr c29
   by_cases c30 : (bt a0 x8_1) ≥ 48
   rotate_left
   ·rw [if_neg c30] at H
    have c30b0 : decide (48 ≤ (bt a0 x8_1)) = false := decide_eq_false c30
    clear c30
    by_cases c34 : (bt a0 x8_1) = 46
    ·rw [if_pos c34] at H
     have c34b0 := beq_iff_eq.mpr c34
     have c34b1 := bne_eq_false_iff_eq.mpr c34
     clear c34
     have H' := Aside0.mk H
     clear H
     have p5 : 0 ≤ (x8_1 : Int) := of_decide_eq_true dq22
     have q5 : x8_1 < (a0.size : Int) := of_decide_eq_true dq22
     have hx5 := bt_at a0 x8_1
     replace p5 := eq_true p5
     replace q5 := eq_true q5
     go_wp2
     go_roundg k1
     case measure => have := HK1.out; omega
     case rel => exact ⟨(wrap64 (x8_1 + 1)), dq15, H', ⟨dq23⟩, dq14⟩
    rw [if_neg c34] at H
    have c34b0 := beq_eq_false_iff_ne.mpr c34
    have c34b1 := bne_iff_ne.mpr c34
    by_cases c35 : (bt a0 x8_1) = 45
    rotate_left
    ·rw [if_neg c35] at H
     have c35b0 := beq_eq_false_iff_ne.mpr c35
     have c35b1 := bne_iff_ne.mpr c35
     obtain rfl := Option.some.inj H
     have p5 : 0 ≤ (x8_1 : Int) := of_decide_eq_true dq22
     have q5 : x8_1 < (a0.size : Int) := of_decide_eq_true dq22
     have hx5 := bt_at a0 x8_1
     replace p5 := eq_true p5
     replace q5 := eq_true q5
     go_wp2
     go_ret
     exact ⟨dq15, dq14⟩
    rw [if_pos c35] at H
    have c35b0 := beq_iff_eq.mpr c35
    have c35b1 := bne_eq_false_iff_eq.mpr c35
    clear c35
    have H' := Aside0.mk H
    clear H
    have p5 : 0 ≤ (x8_1 : Int) := of_decide_eq_true dq22
    have q5 : x8_1 < (a0.size : Int) := of_decide_eq_true dq22
    have hx5 := bt_at a0 x8_1
    replace p5 := eq_true p5
    replace q5 := eq_true q5
    go_wp2
    go_roundg k1
    case measure => have := HK1.out; omega
    case rel => exact ⟨(wrap64 (x8_1 + 1)), dq15, H', ⟨dq23⟩, dq14⟩
   rw [if_pos c30] at H
   have c30b0 : decide (48 ≤ (bt a0 x8_1)) = true := decide_eq_true c30
   clear c30
   by_cases c31 : ((bt a0 x8_1) ≤ 57)
   ·rw [if_pos c31] at H
    have c31b0 : decide ((bt a0 x8_1) ≤ 57) = true := decide_eq_true c31
    clear c31
    have H' := Aside0.mk H
    clear H
    have p5 : 0 ≤ (x8_1 : Int) := of_decide_eq_true dq22
    have q5 : x8_1 < (a0.size : Int) := of_decide_eq_true dq22
    have hx5 := bt_at a0 x8_1
    replace p5 := eq_true p5
    replace q5 := eq_true q5
    go_wp2
    go_roundg k1
    case measure => have := HK1.out; omega
    case rel => exact ⟨(wrap64 (x8_1 + 1)), dq15, H', ⟨dq23⟩, dq14⟩
   rw [if_neg c31] at H
   have c31b0 : decide ((bt a0 x8_1) ≤ 57) = false := decide_eq_false c31
   clear c31
   by_cases c32 : (bt a0 x8_1) = 46
   ·rw [if_pos c32] at H
    have c32b0 := beq_iff_eq.mpr c32
    have c32b1 := bne_eq_false_iff_eq.mpr c32
    clear c32
    have H' := Aside0.mk H
    clear H
    have p5 : 0 ≤ (x8_1 : Int) := of_decide_eq_true dq22
    have q5 : x8_1 < (a0.size : Int) := of_decide_eq_true dq22
    have hx5 := bt_at a0 x8_1
    replace p5 := eq_true p5
    replace q5 := eq_true q5
    go_wp2
    go_roundg k1
    case measure => have := HK1.out; omega
    case rel => exact ⟨(wrap64 (x8_1 + 1)), dq15, H', ⟨dq23⟩, dq14⟩
   rw [if_neg c32] at H
   have c32b0 := beq_eq_false_iff_ne.mpr c32
   have c32b1 := bne_iff_ne.mpr c32
   by_cases c33 : (bt a0 x8_1) = 45
   rotate_left
   ·rw [if_neg c33] at H
    have c33b0 := beq_eq_false_iff_ne.mpr c33
    have c33b1 := bne_iff_ne.mpr c33
    obtain rfl := Option.some.inj H
    have p5 : 0 ≤ (x8_1 : Int) := of_decide_eq_true dq22
    have q5 : x8_1 < (a0.size : Int) := of_decide_eq_true dq22
    have hx5 := bt_at a0 x8_1
    replace p5 := eq_true p5
    replace q5 := eq_true q5
    go_wp2
    go_ret
    exact ⟨dq15, dq14⟩
   rw [if_pos c33] at H
   have c33b0 := beq_iff_eq.mpr c33
   have c33b1 := bne_eq_false_iff_eq.mpr c33
   clear c33
   have H' := Aside0.mk H
   clear H
   have p5 : 0 ≤ (x8_1 : Int) := of_decide_eq_true dq22
   have q5 : x8_1 < (a0.size : Int) := of_decide_eq_true dq22
   have hx5 := bt_at a0 x8_1
   replace p5 := eq_true p5
   replace q5 := eq_true q5
   go_wp2
   go_roundg k1
   case measure => have := HK1.out; omega
   case rel => exact ⟨(wrap64 (x8_1 + 1)), dq15, H', ⟨dq23⟩, dq14⟩
  rw [if_pos c6] at H
  have c6b0 : decide (97 ≤ (bt a0 x8_1)) = true := decide_eq_true c6
  clear c6
  by_cases c7 : (bt a0 x8_1) ≤ 122
  ·rw [if_pos c7] at H
   have c7b0 := decide_eq_true c7
   clear c7
   have H' := Aside0.mk H
   clear H
   have p5 : 0 ≤ (x8_1 : Int) := of_decide_eq_true dq22
   have q5 : x8_1 < (a0.size : Int) := of_decide_eq_true dq22
   have hx5 := bt_at a0 x8_1
   replace p5 := eq_true p5
   replace q5 := eq_true q5
   go_wp2
   go_roundg k1
   case measure => have := HK1.out; omega
   case rel => exact ⟨(wrap64 (x8_1 + 1)), dq15, H', ⟨dq23⟩, dq14⟩
  rw [if_neg c7] at H
  have c7b0 := decide_eq_false c7
  clear c7
  by_cases c8 : (bt a0 x8_1) ≥ 65
  rotate_left
  ·rw [if_neg c8] at H
   have c8b0 : decide (65 ≤ (bt a0 x8_1)) = false := decide_eq_false c8
   clear c8
   by_cases c18 : ((bt a0 x8_1) = 95)
   ·rw [if_pos c18] at H
    have c18b0 : ((bt a0 x8_1) == 95) = true := beq_iff_eq.mpr c18
    have c18b1 : ((bt a0 x8_1) != 95) = false := bne_eq_false_iff_eq.mpr c18
    clear c18
    have H' := Aside0.mk H
    clear H
    have p5 : 0 ≤ (x8_1 : Int) := of_decide_eq_true dq22
    have q5 : x8_1 < (a0.size : Int) := of_decide_eq_true dq22
    have hx5 := bt_at a0 x8_1
    replace p5 := eq_true p5
    replace q5 := eq_true q5
    go_wp2
    go_roundg k1
    case measure => have := HK1.out; omega
    case rel => exact ⟨(wrap64 (x8_1 + 1)), dq15, H', ⟨dq23⟩, dq14⟩
   rw [if_neg c18] at H
   have c18b0 : ((bt a0 x8_1) == 95) = false := beq_eq_false_iff_ne.mpr c18
   have c18b1 : ((bt a0 x8_1) != 95) = true := bne_iff_ne.mpr c18
   by_cases c19 : x8_1 = 0
   ·rw [if_pos c19] at H
    have c19b0 := beq_iff_eq.mpr c19
    have c19b1 := bne_eq_false_iff_eq.mpr c19
    clear c19
    obtain rfl := Option.some.inj H
    have p5 : 0 ≤ (x8_1 : Int) := of_decide_eq_true dq22
    have q5 : x8_1 < (a0.size : Int) := of_decide_eq_true dq22
    have hx5 := bt_at a0 x8_1
    replace p5 := eq_true p5
    replace q5 := eq_true q5
    go_wp2
    go_ret
    exact ⟨dq15, dq14⟩
   rw [if_neg c19] at H
   have c19b0 := beq_eq_false_iff_ne.mpr c19
   have c19b1 := bne_iff_ne.mpr c19
   by_cases c20 : (bt a0 x8_1) ≥ 48
   rotate_left
   ·rw [if_neg c20] at H
    have c20b0 : decide (48 ≤ (bt a0 x8_1)) = false := decide_eq_false c20
    clear c20
    by_cases c24 : (bt a0 x8_1) = 46
    ·rw [if_pos c24] at H
     have c24b0 := beq_iff_eq.mpr c24
     have c24b1 := bne_eq_false_iff_eq.mpr c24
     clear c24
     have H' := Aside0.mk H
     clear H
     have p5 : 0 ≤ (x8_1 : Int) := of_decide_eq_true dq22
     have q5 : x8_1 < (a0.size : Int) := of_decide_eq_true dq22
     have hx5 := bt_at a0 x8_1
     replace p5 := eq_true p5
     replace q5 := eq_true q5
     go_wp2
     go_roundg k1
     case measure => have := HK1.out; omega
     case rel => exact ⟨(wrap64 (x8_1 + 1)), dq15, H', ⟨dq23⟩, dq14⟩
    rw [if_neg c24] at H
    have c24b0 := beq_eq_false_iff_ne.mpr c24
    have c24b1 := bne_iff_ne.mpr c24
    by_cases c25 : (bt a0 x8_1) = 45
    rotate_left
    ·rw [if_neg c25] at H
     have c25b0 := beq_eq_false_iff_ne.mpr c25
     have c25b1 := bne_iff_ne.mpr c25
     obtain rfl := Option.some.inj H
     have p5 : 0 ≤ (x8_1 : Int) := of_decide_eq_true dq22
     have q5 : x8_1 < (a0.size : Int) := of_decide_eq_true dq22
     have hx5 := bt_at a0 x8_1
     replace p5 := eq_true p5
     replace q5 := eq_true q5
     go_wp2
     go_ret
     exact ⟨dq15, dq14⟩
    rw [if_pos c25] at H
    have c25b0 := beq_iff_eq.mpr c25
    have c25b1 := bne_eq_false_iff_eq.mpr c25
    clear c25
    have H' := Aside0.mk H
    clear H
    have p5 : 0 ≤ (x8_1 : Int) := of_decide_eq_true dq22
    have q5 : x8_1 < (a0.size : Int) := of_decide_eq_true dq22
    have hx5 := bt_at a0 x8_1
    replace p5 := eq_true p5
    replace q5 := eq_true q5
    go_wp2
    go_roundg k1
    case measure => have := HK1.out; omega
    case rel => exact ⟨(wrap64 (x8_1 + 1)), dq15, H', ⟨dq23⟩, dq14⟩
   rw [if_pos c20] at H
   have c20b0 : decide (48 ≤ (bt a0 x8_1)) = true := decide_eq_true c20
   clear c20
   by_cases c21 : ((bt a0 x8_1) ≤ 57)
   ·rw [if_pos c21] at H
    have c21b0 : decide ((bt a0 x8_1) ≤ 57) = true := decide_eq_true c21
    clear c21
    have H' := Aside0.mk H
    clear H
    have p5 : 0 ≤ (x8_1 : Int) := of_decide_eq_true dq22
    have q5 : x8_1 < (a0.size : Int) := of_decide_eq_true dq22
    have hx5 := bt_at a0 x8_1
    replace p5 := eq_true p5
    replace q5 := eq_true q5
    go_wp2
    go_roundg k1
    case measure => have := HK1.out; omega
    case rel => exact ⟨(wrap64 (x8_1 + 1)), dq15, H', ⟨dq23⟩, dq14⟩
   rw [if_neg c21] at H
   have c21b0 : decide ((bt a0 x8_1) ≤ 57) = false := decide_eq_false c21
   clear c21
   by_cases c22 : (bt a0 x8_1) = 46
   ·rw [if_pos c22] at H
    have c22b0 := beq_iff_eq.mpr c22
    have c22b1 := bne_eq_false_iff_eq.mpr c22
    clear c22
    have H' := Aside0.mk H
    clear H
    have p5 : 0 ≤ (x8_1 : Int) := of_decide_eq_true dq22
    have q5 : x8_1 < (a0.size : Int) := of_decide_eq_true dq22
    have hx5 := bt_at a0 x8_1
    replace p5 := eq_true p5
    replace q5 := eq_true q5
    go_wp2
    go_roundg k1
    case measure => have := HK1.out; omega
    case rel => exact ⟨(wrap64 (x8_1 + 1)), dq15, H', ⟨dq23⟩, dq14⟩
   rw [if_neg c22] at H
   have c22b0 := beq_eq_false_iff_ne.mpr c22
   have c22b1 := bne_iff_ne.mpr c22
   by_cases c23 : (bt a0 x8_1) = 45
   rotate_left
   ·rw [if_neg c23] at H
    have c23b0 := beq_eq_false_iff_ne.mpr c23
    have c23b1 := bne_iff_ne.mpr c23
    obtain rfl := Option.some.inj H
    have p5 : 0 ≤ (x8_1 : Int) := of_decide_eq_true dq22
    have q5 : x8_1 < (a0.size : Int) := of_decide_eq_true dq22
    have hx5 := bt_at a0 x8_1
    replace p5 := eq_true p5
    replace q5 := eq_true q5
    go_wp2
    go_ret
    exact ⟨dq15, dq14⟩
   rw [if_pos c23] at H
   have c23b0 := beq_iff_eq.mpr c23
   have c23b1 := bne_eq_false_iff_eq.mpr c23
   clear c23
   have H' := Aside0.mk H
   clear H
   have p5 : 0 ≤ (x8_1 : Int) := of_decide_eq_true dq22
   have q5 : x8_1 < (a0.size : Int) := of_decide_eq_true dq22
   have hx5 := bt_at a0 x8_1
   replace p5 := eq_true p5
   replace q5 := eq_true q5
   go_wp2
   go_roundg k1
   case measure => have := HK1.out; omega
   case rel => exact ⟨(wrap64 (x8_1 + 1)), dq15, H', ⟨dq23⟩, dq14⟩
  rw [if_pos c8] at H
  have c8b0 : decide (65 ≤ (bt a0 x8_1)) = true := decide_eq_true c8
  clear c8
  by_cases c9 : (bt a0 x8_1) ≤ 90
  ·rw [if_pos c9] at H
   have c9b0 := decide_eq_true c9
   clear c9
   have H' := Aside0.mk H
   clear H
   have p5 : 0 ≤ (x8_1 : Int) := of_decide_eq_true dq22
   have q5 : x8_1 < (a0.size : Int) := of_decide_eq_true dq22
   have hx5 := bt_at a0 x8_1
   replace p5 := eq_true p5
   replace q5 := eq_true q5
   go_wp2
   go_roundg k1
   case measure => have := HK1.out; omega
   case rel => exact ⟨(wrap64 (x8_1 + 1)), dq15, H', ⟨dq23⟩, dq14⟩
  rw [if_neg c9] at H
  have c9b0 := decide_eq_false c9
  clear c9
  by_cases c10 : ((bt a0 x8_1) = 95)
  ·rw [if_pos c10] at H
   have c10b0 : ((bt a0 x8_1) == 95) = true := beq_iff_eq.mpr c10
   have c10b1 : ((bt a0 x8_1) != 95) = false := bne_eq_false_iff_eq.mpr c10
   clear c10
   have H' := Aside0.mk H
   clear H
   have p5 : 0 ≤ (x8_1 : Int) := of_decide_eq_true dq22
   have q5 : x8_1 < (a0.size : Int) := of_decide_eq_true dq22
   have hx5 := bt_at a0 x8_1
   replace p5 := eq_true p5
   replace q5 := eq_true q5
   go_wp2
   go_roundg k1
   case measure => have := HK1.out; omega
   case rel => exact ⟨(wrap64 (x8_1 + 1)), dq15, H', ⟨dq23⟩, dq14⟩
  rw [if_neg c10] at H
  have c10b0 : ((bt a0 x8_1) == 95) = false := beq_eq_false_iff_ne.mpr c10
  have c10b1 : ((bt a0 x8_1) != 95) = true := bne_iff_ne.mpr c10
  by_cases c11 : x8_1 = 0
  ·rw [if_pos c11] at H
   have c11b0 := beq_iff_eq.mpr c11
   have c11b1 := bne_eq_false_iff_eq.mpr c11
   clear c11
   obtain rfl := Option.some.inj H
   have p5 : 0 ≤ (x8_1 : Int) := of_decide_eq_true dq22
   have q5 : x8_1 < (a0.size : Int) := of_decide_eq_true dq22
   have hx5 := bt_at a0 x8_1
   replace p5 := eq_true p5
   replace q5 := eq_true q5
   go_wp2
   go_ret
   exact ⟨dq15, dq14⟩
  rw [if_neg c11] at H
  have c11b0 := beq_eq_false_iff_ne.mpr c11
  have c11b1 := bne_iff_ne.mpr c11
  by_cases c12 : (bt a0 x8_1) ≥ 48
  rotate_left
  ·rw [if_neg c12] at H
   have c12b0 : decide (48 ≤ (bt a0 x8_1)) = false := decide_eq_false c12
   clear c12
   by_cases c16 : (bt a0 x8_1) = 46
   ·rw [if_pos c16] at H
    have c16b0 := beq_iff_eq.mpr c16
    have c16b1 := bne_eq_false_iff_eq.mpr c16
    clear c16
    have H' := Aside0.mk H
    clear H
    have p5 : 0 ≤ (x8_1 : Int) := of_decide_eq_true dq22
    have q5 : x8_1 < (a0.size : Int) := of_decide_eq_true dq22
    have hx5 := bt_at a0 x8_1
    replace p5 := eq_true p5
    replace q5 := eq_true q5
    go_wp2
    go_roundg k1
    case measure => have := HK1.out; omega
    case rel => exact ⟨(wrap64 (x8_1 + 1)), dq15, H', ⟨dq23⟩, dq14⟩
   rw [if_neg c16] at H
   have c16b0 := beq_eq_false_iff_ne.mpr c16
   have c16b1 := bne_iff_ne.mpr c16
   by_cases c17 : (bt a0 x8_1) = 45
   rotate_left
   ·rw [if_neg c17] at H
    have c17b0 := beq_eq_false_iff_ne.mpr c17
    have c17b1 := bne_iff_ne.mpr c17
    obtain rfl := Option.some.inj H
    have p5 : 0 ≤ (x8_1 : Int) := of_decide_eq_true dq22
    have q5 : x8_1 < (a0.size : Int) := of_decide_eq_true dq22
    have hx5 := bt_at a0 x8_1
    replace p5 := eq_true p5
    replace q5 := eq_true q5
    go_wp2
    go_ret
    exact ⟨dq15, dq14⟩
   rw [if_pos c17] at H
   have c17b0 := beq_iff_eq.mpr c17
   have c17b1 := bne_eq_false_iff_eq.mpr c17
   clear c17
   have H' := Aside0.mk H
   clear H
   have p5 : 0 ≤ (x8_1 : Int) := of_decide_eq_true dq22
   have q5 : x8_1 < (a0.size : Int) := of_decide_eq_true dq22
   have hx5 := bt_at a0 x8_1
   replace p5 := eq_true p5
   replace q5 := eq_true q5
   go_wp2
   go_roundg k1
   case measure => have := HK1.out; omega
   case rel => exact ⟨(wrap64 (x8_1 + 1)), dq15, H', ⟨dq23⟩, dq14⟩
  rw [if_pos c12] at H
  have c12b0 : decide (48 ≤ (bt a0 x8_1)) = true := decide_eq_true c12
  clear c12
  by_cases c13 : ((bt a0 x8_1) ≤ 57)
  ·rw [if_pos c13] at H
   have c13b0 : decide ((bt a0 x8_1) ≤ 57) = true := decide_eq_true c13
   clear c13
   have H' := Aside0.mk H
   clear H
   have p5 : 0 ≤ (x8_1 : Int) := of_decide_eq_true dq22
   have q5 : x8_1 < (a0.size : Int) := of_decide_eq_true dq22
   have hx5 := bt_at a0 x8_1
   replace p5 := eq_true p5
   replace q5 := eq_true q5
   go_wp2
   go_roundg k1
   case measure => have := HK1.out; omega
   case rel => exact ⟨(wrap64 (x8_1 + 1)), dq15, H', ⟨dq23⟩, dq14⟩
  rw [if_neg c13] at H
  have c13b0 : decide ((bt a0 x8_1) ≤ 57) = false := decide_eq_false c13
  clear c13
  by_cases c14 : (bt a0 x8_1) = 46
  ·rw [if_pos c14] at H
   have c14b0 := beq_iff_eq.mpr c14
   have c14b1 := bne_eq_false_iff_eq.mpr c14
   clear c14
   have H' := Aside0.mk H
   clear H
   have p5 : 0 ≤ (x8_1 : Int) := of_decide_eq_true dq22
   have q5 : x8_1 < (a0.size : Int) := of_decide_eq_true dq22
   have hx5 := bt_at a0 x8_1
   replace p5 := eq_true p5
   replace q5 := eq_true q5
   go_wp2
   go_roundg k1
   case measure => have := HK1.out; omega
   case rel => exact ⟨(wrap64 (x8_1 + 1)), dq15, H', ⟨dq23⟩, dq14⟩
  rw [if_neg c14] at H
  have c14b0 := beq_eq_false_iff_ne.mpr c14
  have c14b1 := bne_iff_ne.mpr c14
  by_cases c15 : (bt a0 x8_1) = 45
  rotate_left
  ·rw [if_neg c15] at H
   have c15b0 := beq_eq_false_iff_ne.mpr c15
   have c15b1 := bne_iff_ne.mpr c15
   obtain rfl := Option.some.inj H
   have p5 : 0 ≤ (x8_1 : Int) := of_decide_eq_true dq22
   have q5 : x8_1 < (a0.size : Int) := of_decide_eq_true dq22
   have hx5 := bt_at a0 x8_1
   replace p5 := eq_true p5
   replace q5 := eq_true q5
   go_wp2
   go_ret
   exact ⟨dq15, dq14⟩
  rw [if_pos c15] at H
  have c15b0 := beq_iff_eq.mpr c15
  have c15b1 := bne_eq_false_iff_eq.mpr c15
  clear c15
  have H' := Aside0.mk H
  clear H
  have p5 : 0 ≤ (x8_1 : Int) := of_decide_eq_true dq22
  have q5 : x8_1 < (a0.size : Int) := of_decide_eq_true dq22
  have hx5 := bt_at a0 x8_1
  replace p5 := eq_true p5
  replace q5 := eq_true q5
  go_wp2
  go_roundg k1
  case measure => have := HK1.out; omega
  case rel => exact ⟨(wrap64 (x8_1 + 1)), dq15, H', ⟨dq23⟩, dq14⟩

/-! ### impl_PNode_fits: function 64 -/
def impl_PNode_fits.f (k : Nat) (a0_0 : Int) (a0_1 : ByteArray) (l0_2 : List Int) (a0_3 : Int) : Option (Bool) := if a0_0 = 1 then ((impl_NameOk.f k a0_1).bind fun t234 => (if t234 = true then (some ((l0_2.length : Int) == 0)) else (some false))) else (if a0_0 = 4 then (if a0_1.toList = ([] : List UInt8) then (if a0_0 = 2 then (some true) else (some ((l0_2.length : Int) == 0))) else (some false)) else (if a0_0 = 2 then (if a0_1.toList = ([] : List UInt8) then (some true) else (some false)) else (if a0_0 = 3 then (if a0_1.toList = ([] : List UInt8) then (some (decide ((l0_2.length : Int) ≥ 2))) else (some false)) else (some false))))
set_option maxHeartbeats 8000000 in
set_option maxRecDepth 100000 in
theorem impl_PNode_fits.calls (k : Nat) (a0_0 : Int) (a0_1 : ByteArray) (A0_2 : Option Addr) (c0_2 : Nat) (l0_2 : List Int) (a0_3 : Int) (r : Bool) (w : World) (hr0_2 : Kd.C (Kd.int .i64) w A0_2 l0_2.length l0_2) (hc0_2 : l0_2.length ≤ c0_2) (h : impl_PNode_fits.f k a0_0 a0_1 l0_2 a0_3 = some r) :
  Calls Try.prog 64 #[.agg #[.int .i64 a0_0, .string a0_1, .slice A0_2 l0_2.length c0_2, .int .i64 a0_3]] w fun e w' => e = .returned (.bool r) ∧ Below w.heap.size w w' := by
 have hu49 := Try.underlying49
 have HR0_2 := Aside0.mk hr0_2
 have HC0_2 := Aside0.mk hc0_2
 clear hr0_2 hc0_2
 have HB := Aside0.mk (Below.refl w.heap.size w)
 have H : (if a0_0 = 1 then ((impl_NameOk.f k a0_1).bind fun t234 => (if t234 = true then (some ((l0_2.length : Int) == 0)) else (some false))) else (if a0_0 = 4 then (if a0_1.toList = ([] : List UInt8) then (if a0_0 = 2 then (some true) else (some ((l0_2.length : Int) == 0))) else (some false)) else (if a0_0 = 2 then (if a0_1.toList = ([] : List UInt8) then (some true) else (some false)) else (if a0_0 = 3 then (if a0_1.toList = ([] : List UInt8) then (some (decide ((l0_2.length : Int) ≥ 2))) else (some false)) else (some false))))) = some r := h
 clear h
 by_cases c2 : a0_0 = 1
 ·rw [if_pos c2] at H
  have c2b0 := beq_iff_eq.mpr c2
  have c2b1 := bne_eq_false_iff_eq.mpr c2
  clear c2
  replace H := Option.bind_eq_some_iff.mp H
  obtain ⟨t234, A30, H⟩ := H
  replace H : (if t234 = true then (some ((l0_2.length : Int) == 0)) else (some false)) = some r := H
  have A3 := Aside0.mk A30
  clear A30
  by_cases c4 : t234 = true
  ·subst c4
   have H1 : (some ((l0_2.length : Int) == 0)) = some r := by rw [if_pos rfl] at H; exact H
   clear H
   have H := H1
   clear H1
   obtain rfl := Option.some.inj H
   go_enter Try.func64, Try.ntmps64
   go_wp2_with (first | ((with_reducible refine gate_dst (N := 1) rfl ?_); (try (refine gate_guard (by rfl) ?_; dsimp only)); refine box_event ?hg (N := 1) ?hd (cs := #[.int .i64 a0_0, .string a0_1, .slice A0_2 l0_2.length c0_2, .int .i64 a0_3]) (t := 49) ?hr ?_; (case hd => rfl); (case hg => rfl); (case hr => exact dq0); intro gb233 hg w5 hbox hb; have n0_ := Aside0.mk (below_step dq17 hb); have n1_ := Aside0.mk (hbox); have n2_ := Aside0.mk ((dq16 : w.heap.size ≤ gb233)); have n3_ := Aside0.mk ((dq16 : w.heap.size ≤ gb233)); clear HB; have HB := n0_; have BK233 := n1_; have GW233 := n2_; have GE233 := n3_; clear n0_ n1_ n2_ n3_; clear hb hbox hg; obtain ⟨⟨hcz6_0, hcz6_1, hcz6_2, hcz6_3⟩, hfz6_0, hfz6_1, hfz6_2, hfz6_3⟩ := blkC4 BK233.out) | ((with_reducible refine gate_callee (f := 75) rfl ?_); refine goesL_ (some 9) rfl rfl Try.func75 dq21 rfl #[.string a0_1] rfl dq20 ?_; (with_reducible refine (impl_NameOk.calls k a0_1 true _ A3.out).mono ?_); rintro e w' ⟨rfl, ⟨nd, rfl⟩⟩; refine ⟨_, rfl, ?_⟩))
   go_ret
   exact ⟨dq19, dq101⟩
  replace c4 := Bool.eq_false_iff.mpr c4
  subst c4
  have H1 : (some false) = some r := by rw [if_neg (show ¬ (false = true) by decide)] at H; exact H
  clear H
  have H := H1
  clear H1
  obtain rfl := Option.some.inj H
  go_enter Try.func64, Try.ntmps64
  go_wp2_with (first | ((with_reducible refine gate_dst (N := 1) rfl ?_); (try (refine gate_guard (by rfl) ?_; dsimp only)); refine box_event ?hg (N := 1) ?hd (cs := #[.int .i64 a0_0, .string a0_1, .slice A0_2 l0_2.length c0_2, .int .i64 a0_3]) (t := 49) ?hr ?_; (case hd => rfl); (case hg => rfl); (case hr => exact dq0); intro gb233 hg w7 hbox hb; have n0_ := Aside0.mk (below_step dq17 hb); have n1_ := Aside0.mk (hbox); have n2_ := Aside0.mk ((dq16 : w.heap.size ≤ gb233)); have n3_ := Aside0.mk ((dq16 : w.heap.size ≤ gb233)); clear HB; have HB := n0_; have BK233 := n1_; have GW233 := n2_; have GE233 := n3_; clear n0_ n1_ n2_ n3_; clear hb hbox hg; obtain ⟨⟨hcz8_0, hcz8_1, hcz8_2, hcz8_3⟩, hfz8_0, hfz8_1, hfz8_2, hfz8_3⟩ := blkC4 BK233.out) | ((with_reducible refine gate_callee (f := 75) rfl ?_); refine goesL_ (some 9) rfl rfl Try.func75 dq21 rfl #[.string a0_1] rfl dq20 ?_; (with_reducible refine (impl_NameOk.calls k a0_1 false _ A3.out).mono ?_); rintro e w' ⟨rfl, ⟨nd, rfl⟩⟩; refine ⟨_, rfl, ?_⟩))
  go_ret
  exact ⟨dq19, dq101⟩
 rw [if_neg c2] at H
 have c2b0 := beq_eq_false_iff_ne.mpr c2
 have c2b1 := bne_iff_ne.mpr c2
 by_cases c9 : a0_0 = 4
 ·rw [if_pos c9] at H
  have c9b0 := beq_iff_eq.mpr c9
  have c9b1 := bne_eq_false_iff_eq.mpr c9
  clear c9
  by_cases c10 : a0_1.toList = ([] : List UInt8)
  rotate_left
  ·rw [if_neg c10] at H
   have c10b0 := beq_eq_false_iff_ne.mpr c10
   have c10b1 := bne_iff_ne.mpr c10
   obtain rfl := Option.some.inj H
   go_enter Try.func64, Try.ntmps64
   go_wp2_with (first | ((with_reducible refine gate_dst (N := 1) rfl ?_); (try (refine gate_guard (by rfl) ?_; dsimp only)); refine box_event ?hg (N := 1) ?hd (cs := #[.int .i64 a0_0, .string a0_1, .slice A0_2 l0_2.length c0_2, .int .i64 a0_3]) (t := 49) ?hr ?_; (case hd => rfl); (case hg => rfl); (case hr => exact dq0); intro gb233 hg w16 hbox hb; have n0_ := Aside0.mk (below_step dq17 hb); have n1_ := Aside0.mk (hbox); have n2_ := Aside0.mk ((dq16 : w.heap.size ≤ gb233)); have n3_ := Aside0.mk ((dq16 : w.heap.size ≤ gb233)); clear HB; have HB := n0_; have BK233 := n1_; have GW233 := n2_; have GE233 := n3_; clear n0_ n1_ n2_ n3_; clear hb hbox hg; obtain ⟨⟨hcz17_0, hcz17_1, hcz17_2, hcz17_3⟩, hfz17_0, hfz17_1, hfz17_2, hfz17_3⟩ := blkC4 BK233.out))
   go_ret
   exact ⟨dq19, dq101⟩
  rw [if_pos c10] at H
  have c10b0 := beq_iff_eq.mpr c10
  have c10b1 := bne_eq_false_iff_eq.mpr c10
  clear c10
  by_cases c11 : a0_0 = 2
  rotate_left
  ·rw [if_neg c11] at H
   have c11b0 := beq_eq_false_iff_ne.mpr c11
   have c11b1 := bne_iff_ne.mpr c11
   obtain rfl := Option.some.inj H
   go_enter Try.func64, Try.ntmps64
   go_wp2_with (first | ((with_reducible refine gate_dst (N := 1) rfl ?_); (try (refine gate_guard (by rfl) ?_; dsimp only)); refine box_event ?hg (N := 1) ?hd (cs := #[.int .i64 a0_0, .string a0_1, .slice A0_2 l0_2.length c0_2, .int .i64 a0_3]) (t := 49) ?hr ?_; (case hd => rfl); (case hg => rfl); (case hr => exact dq0); intro gb233 hg w14 hbox hb; have n0_ := Aside0.mk (below_step dq17 hb); have n1_ := Aside0.mk (hbox); have n2_ := Aside0.mk ((dq16 : w.heap.size ≤ gb233)); have n3_ := Aside0.mk ((dq16 : w.heap.size ≤ gb233)); clear HB; have HB := n0_; have BK233 := n1_; have GW233 := n2_; have GE233 := n3_; clear n0_ n1_ n2_ n3_; clear hb hbox hg; obtain ⟨⟨hcz15_0, hcz15_1, hcz15_2, hcz15_3⟩, hfz15_0, hfz15_1, hfz15_2, hfz15_3⟩ := blkC4 BK233.out))
   go_ret
   exact ⟨dq19, dq101⟩
  rw [if_pos c11] at H
  have c11b0 := beq_iff_eq.mpr c11
  have c11b1 := bne_eq_false_iff_eq.mpr c11
  clear c11
  obtain rfl := Option.some.inj H
  go_enter Try.func64, Try.ntmps64
  go_wp2_with (first | ((with_reducible refine gate_dst (N := 1) rfl ?_); (try (refine gate_guard (by rfl) ?_; dsimp only)); refine box_event ?hg (N := 1) ?hd (cs := #[.int .i64 a0_0, .string a0_1, .slice A0_2 l0_2.length c0_2, .int .i64 a0_3]) (t := 49) ?hr ?_; (case hd => rfl); (case hg => rfl); (case hr => exact dq0); intro gb233 hg w12 hbox hb; have n0_ := Aside0.mk (below_step dq17 hb); have n1_ := Aside0.mk (hbox); have n2_ := Aside0.mk ((dq16 : w.heap.size ≤ gb233)); have n3_ := Aside0.mk ((dq16 : w.heap.size ≤ gb233)); clear HB; have HB := n0_; have BK233 := n1_; have GW233 := n2_; have GE233 := n3_; clear n0_ n1_ n2_ n3_; clear hb hbox hg; obtain ⟨⟨hcz13_0, hcz13_1, hcz13_2, hcz13_3⟩, hfz13_0, hfz13_1, hfz13_2, hfz13_3⟩ := blkC4 BK233.out))
  go_ret
  exact ⟨dq19, dq101⟩
 rw [if_neg c9] at H
 have c9b0 := beq_eq_false_iff_ne.mpr c9
 have c9b1 := bne_iff_ne.mpr c9
 by_cases c18 : a0_0 = 2
 ·rw [if_pos c18] at H
  have c18b0 := beq_iff_eq.mpr c18
  have c18b1 := bne_eq_false_iff_eq.mpr c18
  clear c18
  by_cases c19 : a0_1.toList = ([] : List UInt8)
  rotate_left
  ·rw [if_neg c19] at H
   have c19b0 := beq_eq_false_iff_ne.mpr c19
   have c19b1 := bne_iff_ne.mpr c19
   obtain rfl := Option.some.inj H
   go_enter Try.func64, Try.ntmps64
   go_wp2_with (first | ((with_reducible refine gate_dst (N := 1) rfl ?_); (try (refine gate_guard (by rfl) ?_; dsimp only)); refine box_event ?hg (N := 1) ?hd (cs := #[.int .i64 a0_0, .string a0_1, .slice A0_2 l0_2.length c0_2, .int .i64 a0_3]) (t := 49) ?hr ?_; (case hd => rfl); (case hg => rfl); (case hr => exact dq0); intro gb233 hg w22 hbox hb; have n0_ := Aside0.mk (below_step dq17 hb); have n1_ := Aside0.mk (hbox); have n2_ := Aside0.mk ((dq16 : w.heap.size ≤ gb233)); have n3_ := Aside0.mk ((dq16 : w.heap.size ≤ gb233)); clear HB; have HB := n0_; have BK233 := n1_; have GW233 := n2_; have GE233 := n3_; clear n0_ n1_ n2_ n3_; clear hb hbox hg; obtain ⟨⟨hcz23_0, hcz23_1, hcz23_2, hcz23_3⟩, hfz23_0, hfz23_1, hfz23_2, hfz23_3⟩ := blkC4 BK233.out))
   go_ret
   exact ⟨dq19, dq101⟩
  rw [if_pos c19] at H
  have c19b0 := beq_iff_eq.mpr c19
  have c19b1 := bne_eq_false_iff_eq.mpr c19
  clear c19
  obtain rfl := Option.some.inj H
  go_enter Try.func64, Try.ntmps64
  go_wp2_with (first | ((with_reducible refine gate_dst (N := 1) rfl ?_); (try (refine gate_guard (by rfl) ?_; dsimp only)); refine box_event ?hg (N := 1) ?hd (cs := #[.int .i64 a0_0, .string a0_1, .slice A0_2 l0_2.length c0_2, .int .i64 a0_3]) (t := 49) ?hr ?_; (case hd => rfl); (case hg => rfl); (case hr => exact dq0); intro gb233 hg w20 hbox hb; have n0_ := Aside0.mk (below_step dq17 hb); have n1_ := Aside0.mk (hbox); have n2_ := Aside0.mk ((dq16 : w.heap.size ≤ gb233)); have n3_ := Aside0.mk ((dq16 : w.heap.size ≤ gb233)); clear HB; have HB := n0_; have BK233 := n1_; have GW233 := n2_; have GE233 := n3_; clear n0_ n1_ n2_ n3_; clear hb hbox hg; obtain ⟨⟨hcz21_0, hcz21_1, hcz21_2, hcz21_3⟩, hfz21_0, hfz21_1, hfz21_2, hfz21_3⟩ := blkC4 BK233.out))
  go_ret
  exact ⟨dq19, dq101⟩
 rw [if_neg c18] at H
 have c18b0 := beq_eq_false_iff_ne.mpr c18
 have c18b1 := bne_iff_ne.mpr c18
 by_cases c24 : a0_0 = 3
 rotate_left
 ·rw [if_neg c24] at H
  have c24b0 := beq_eq_false_iff_ne.mpr c24
  have c24b1 := bne_iff_ne.mpr c24
  obtain rfl := Option.some.inj H
  go_enter Try.func64, Try.ntmps64
  go_wp2_with (first | ((with_reducible refine gate_dst (N := 1) rfl ?_); (try (refine gate_guard (by rfl) ?_; dsimp only)); refine box_event ?hg (N := 1) ?hd (cs := #[.int .i64 a0_0, .string a0_1, .slice A0_2 l0_2.length c0_2, .int .i64 a0_3]) (t := 49) ?hr ?_; (case hd => rfl); (case hg => rfl); (case hr => exact dq0); intro gb233 hg w30 hbox hb; have n0_ := Aside0.mk (below_step dq17 hb); have n1_ := Aside0.mk (hbox); have n2_ := Aside0.mk ((dq16 : w.heap.size ≤ gb233)); have n3_ := Aside0.mk ((dq16 : w.heap.size ≤ gb233)); clear HB; have HB := n0_; have BK233 := n1_; have GW233 := n2_; have GE233 := n3_; clear n0_ n1_ n2_ n3_; clear hb hbox hg; obtain ⟨⟨hcz31_0, hcz31_1, hcz31_2, hcz31_3⟩, hfz31_0, hfz31_1, hfz31_2, hfz31_3⟩ := blkC4 BK233.out))
  go_ret
  exact ⟨dq19, dq101⟩
 rw [if_pos c24] at H
 have c24b0 := beq_iff_eq.mpr c24
 have c24b1 := bne_eq_false_iff_eq.mpr c24
 clear c24
 by_cases c25 : a0_1.toList = ([] : List UInt8)
 rotate_left
 ·rw [if_neg c25] at H
  have c25b0 := beq_eq_false_iff_ne.mpr c25
  have c25b1 := bne_iff_ne.mpr c25
  obtain rfl := Option.some.inj H
  go_enter Try.func64, Try.ntmps64
  go_wp2_with (first | ((with_reducible refine gate_dst (N := 1) rfl ?_); (try (refine gate_guard (by rfl) ?_; dsimp only)); refine box_event ?hg (N := 1) ?hd (cs := #[.int .i64 a0_0, .string a0_1, .slice A0_2 l0_2.length c0_2, .int .i64 a0_3]) (t := 49) ?hr ?_; (case hd => rfl); (case hg => rfl); (case hr => exact dq0); intro gb233 hg w28 hbox hb; have n0_ := Aside0.mk (below_step dq17 hb); have n1_ := Aside0.mk (hbox); have n2_ := Aside0.mk ((dq16 : w.heap.size ≤ gb233)); have n3_ := Aside0.mk ((dq16 : w.heap.size ≤ gb233)); clear HB; have HB := n0_; have BK233 := n1_; have GW233 := n2_; have GE233 := n3_; clear n0_ n1_ n2_ n3_; clear hb hbox hg; obtain ⟨⟨hcz29_0, hcz29_1, hcz29_2, hcz29_3⟩, hfz29_0, hfz29_1, hfz29_2, hfz29_3⟩ := blkC4 BK233.out))
  go_ret
  exact ⟨dq19, dq101⟩
 rw [if_pos c25] at H
 have c25b0 := beq_iff_eq.mpr c25
 have c25b1 := bne_eq_false_iff_eq.mpr c25
 clear c25
 obtain rfl := Option.some.inj H
 go_enter Try.func64, Try.ntmps64
 go_wp2_with (first | ((with_reducible refine gate_dst (N := 1) rfl ?_); (try (refine gate_guard (by rfl) ?_; dsimp only)); refine box_event ?hg (N := 1) ?hd (cs := #[.int .i64 a0_0, .string a0_1, .slice A0_2 l0_2.length c0_2, .int .i64 a0_3]) (t := 49) ?hr ?_; (case hd => rfl); (case hg => rfl); (case hr => exact dq0); intro gb233 hg w26 hbox hb; have n0_ := Aside0.mk (below_step dq17 hb); have n1_ := Aside0.mk (hbox); have n2_ := Aside0.mk ((dq16 : w.heap.size ≤ gb233)); have n3_ := Aside0.mk ((dq16 : w.heap.size ≤ gb233)); clear HB; have HB := n0_; have BK233 := n1_; have GW233 := n2_; have GE233 := n3_; clear n0_ n1_ n2_ n3_; clear hb hbox hg; obtain ⟨⟨hcz27_0, hcz27_1, hcz27_2, hcz27_3⟩, hfz27_0, hfz27_1, hfz27_2, hfz27_3⟩ := blkC4 BK233.out))
 go_ret
 exact ⟨dq19, dq101⟩

/-! ### impl_ParticleOk: function 37 -/
mutual
def impl_ParticleOk.l0 : Nat → List (S49) → List Int → List Int → List (S49) → Int → Int → Option (Bool)
 | 0, _, _, _, _, _, _ => none
 | k + 1, x0, x3, x4, x20, x21, x22 => if x22 < x21 then (if 0 ≤ x22 then (if x22 < (x20.length : Int) then ((impl_PNode_fits.f k ((rd_T49 x20 x22).f0) ((rd_T49 x20 x22).f1) ((rd_T49 x20 x22).f2) ((rd_T49 x20 x22).f3)).bind fun t248 => (if t248 = true then ((impl_in.f ((rd_T49 x20 x22).f3) 0 3).bind fun t249 => (impl_ParticleOk.j1 k x0 x3 x4 x22 x20 x21 x22 (!t249) ((rd_T49 x20 x22).f0) ((rd_T49 x20 x22).f1) ((rd_T49 x20 x22).f2) ((rd_T49 x20 x22).f3))) else (impl_ParticleOk.j1 k x0 x3 x4 x22 x20 x21 x22 true ((rd_T49 x20 x22).f0) ((rd_T49 x20 x22).f1) ((rd_T49 x20 x22).f2) ((rd_T49 x20 x22).f3)))) else (none)) else (none)) else (if 0 ≤ (wrap64 ((x0.length : Int) - 1)) then (if (wrap64 ((x0.length : Int) - 1)) < (x3.length : Int) then (if (rd x3 (wrap64 ((x0.length : Int) - 1))) = 0 then (if (wrap64 ((x0.length : Int) - 1)) < (x0.length : Int) then ((impl_PNode_isPosition.f ((rd_T49 x0 (wrap64 ((x0.length : Int) - 1))).f0) ((rd_T49 x0 (wrap64 ((x0.length : Int) - 1))).f1) ((rd_T49 x0 (wrap64 ((x0.length : Int) - 1))).f2) ((rd_T49 x0 (wrap64 ((x0.length : Int) - 1))).f3)).bind fun t244 => (if t244 = true then (some false) else (if (wrap64 ((x0.length : Int) - 1)) < (x4.length : Int) then (some (decide ((rd x4 (wrap64 ((x0.length : Int) - 1))) ≤ 9))) else (none)))) else (none)) else (some false)) else (none)) else (none))
def impl_ParticleOk.j1 : Nat → List (S49) → List Int → List Int → Int → List (S49) → Int → Int → Bool → Int → ByteArray → List Int → Int → Option (Bool)
 | 0, _, _, _, _, _, _, _, _, _, _, _, _ => none
 | k + 1, x0, x3, x4, x5, x20, x21, x22, x35, x248000, x248001, x248002, x248003 => if x35 = true then (some false) else (if 0 ≤ x5 then (if x5 < (x3.length : Int) then (impl_ParticleOk.l1 k x0 (x3.set (x5 : Int).toNat x5) x4 x5 (wrap64 ((x248002.length : Int) - 1)) x20 x21 x22 x248000 x248001 x248002 x248003) else (none)) else (none))
def impl_ParticleOk.l1 : Nat → List (S49) → List Int → List Int → Int → Int → List (S49) → Int → Int → Int → ByteArray → List Int → Int → Option (Bool)
 | 0, _, _, _, _, _, _, _, _, _, _, _, _ => none
 | k + 1, x0, x3, x4, x5, x7, x20, x21, x22, x248000, x248001, x248002, x248003 => if x7 ≥ 0 then (if 0 ≤ x7 then (if x7 < (x248002.length : Int) then (if (rd x248002 x7) < 0 then (some false) else (if 0 ≤ x5 then (if x5 < (x3.length : Int) then (if (rd x248002 x7) = (wrap64 ((rd x3 x5) - 1)) then (if 0 ≤ (rd x248002 x7) then (if (rd x248002 x7) < (x3.length : Int) then (if x5 < (x4.length : Int) then (if (rd x248002 x7) < (x4.length : Int) then (impl_ParticleOk.l1 k x0 (x3.set (x5 : Int).toNat (rd x3 (rd x248002 x7))) (x4.set (x5 : Int).toNat (mx (rd x4 x5) (wrap64 ((rd x4 (rd x248002 x7)) + 1)))) x5 (wrap64 (x7 - 1)) x20 x21 x22 x248000 x248001 x248002 x248003) else (none)) else (none)) else (none)) else (none)) else (some false)) else (none)) else (none))) else (none)) else (none)) else (impl_ParticleOk.l0 k x0 x3 x4 x20 x21 (wrap64 (x22 + 1)))
end
def impl_ParticleOk.f (k : Nat) (l0 : List (S49)) : Option (Bool) := (impl_in.f (l0.length : Int) 1 40).bind fun t235 => (if t235 = true then (if 0 ≤ (l0.length : Int) then (if ((l0.length : Int) : Int).toNat ≤ 35184372088832 then (impl_ParticleOk.l0 k l0 (List.replicate ((l0.length : Int) : Int).toNat 0) (List.replicate ((l0.length : Int) : Int).toNat 0) l0 (l0.length : Int) 0) else (none)) else (none)) else (some false))
def impl_ParticleOk.T3 : Bool × List (List Nat × List Nat) := (true, [([], []), ([0], [0]), ([1, 1], [1]), ([], []), ([3], [3]), ([4, 4], [4]), ([2, 0, 1, 2], [2]), ([5, 6, 0, 1, 2, 3, 4, 5, 6], [5])])
def impl_ParticleOk.B3 : List Nat := [0, 1, 3, 0, 8, 24, 7, 127]
theorem impl_ParticleOk.tab3 : rtab .any (opsOf Try.f37 3) = impl_ParticleOk.T3 := by kernel_rfl
theorem impl_ParticleOk.bits3 : waitsOk impl_ParticleOk.T3.2 impl_ParticleOk.B3 = true := by kernel_rfl
def impl_ParticleOk.T16 : Bool × List (List Nat × List Nat) := (true, [([], []), ([], []), ([], []), ([], []), ([], []), ([], []), ([4, 5], [4, 5]), ([6], [6]), ([], []), ([], []), ([8, 9], [8, 9]), ([10], [10]), ([], []), ([], []), ([12, 13], [12, 13]), ([14], [14]), ([15], [15]), ([11, 16], [11, 16]), ([0, 1, 0, 1, 4, 5, 6, 7, 11, 15], [0, 1]), ([18, 7, 0, 1, 4, 5, 6, 7, 11, 15], [7, 18]), ([2, 3, 0, 1, 2, 3, 4, 5, 6, 7, 8, 9, 10, 11, 12, 13, 14, 15, 16, 17, 18, 19], [2, 3]), ([20, 17, 19, 0, 1, 2, 3, 4, 5, 6, 7, 8, 9, 10, 11, 12, 13, 14, 15, 16, 17, 18, 19], [17, 20])])
def impl_ParticleOk.B16 : List Nat := [0, 0, 0, 0, 0, 0, 48, 112, 0, 0, 768, 1792, 0, 0, 12288, 28672, 61440, 130816, 65523, 327667, 1048575, 2097151]
theorem impl_ParticleOk.tab16 : rtab .any (opsOf Try.f37 16) = impl_ParticleOk.T16 := by kernel_rfl
theorem impl_ParticleOk.bits16 : waitsOk impl_ParticleOk.T16.2 impl_ParticleOk.B16 = true := by kernel_rfl
set_option maxHeartbeats 8000000 in
set_option maxRecDepth 100000 in
theorem impl_ParticleOk.calls (k : Nat) (A0 : Option Addr) (c0 : Nat) (l0 : List (S49)) (r : Bool) (w : World) (hr0 : Kd.C k49 w A0 l0.length l0) (hc0 : l0.length ≤ c0) (h : impl_ParticleOk.f k l0 = some r) :
  Calls Try.prog 37 #[.slice A0 l0.length c0] w fun e w' => e = .returned (.bool r) ∧ Below w.heap.size w w' := by
 have hu49 := Try.underlying49
 have HR0 := Aside0.mk hr0
 have HC0 := Aside0.mk hc0
 clear hr0 hc0
 have HB := Aside0.mk (Below.refl w.heap.size w)
 have H : ((impl_in.f (l0.length : Int) 1 40).bind fun t235 => (if t235 = true then (if 0 ≤ (l0.length : Int) then (if ((l0.length : Int) : Int).toNat ≤ 35184372088832 then (impl_ParticleOk.l0 k l0 (List.replicate ((l0.length : Int) : Int).toNat 0) (List.replicate ((l0.length : Int) : Int).toNat 0) l0 (l0.length : Int) 0) else (none)) else (none)) else (some false))) = some r := h
 clear h
 replace H := Option.bind_eq_some_iff.mp H
 obtain ⟨t235, A20, H⟩ := H
 replace H : (if t235 = true then (if 0 ≤ (l0.length : Int) then (if ((l0.length : Int) : Int).toNat ≤ 35184372088832 then (impl_ParticleOk.l0 k l0 (List.replicate ((l0.length : Int) : Int).toNat 0) (List.replicate ((l0.length : Int) : Int).toNat 0) l0 (l0.length : Int) 0) else (none)) else (none)) else (some false)) = some r := H
 have A2 := Aside0.mk A20
 clear A20
 by_cases c3 : t235 = true
 rotate_left
 ·replace c3 := Bool.eq_false_iff.mpr c3
  subst c3
  have H1 : (some false) = some r := by rw [if_neg (show ¬ (false = true) by decide)] at H; exact H
  clear H
  have H := H1
  clear H1
  obtain rfl := Option.some.inj H
  go_enter Try.func37, Try.ntmps37
  go_wp2_with (first | ((with_reducible refine gate_callee (f := 47) rfl ?_); refine goesL_ (some 12) rfl rfl Try.func47 dq21 rfl #[.int .i64 (l0.length : Int), .int .i64 1, .int .i64 40] rfl dq20 ?_; (with_reducible refine (impl_in.calls (l0.length : Int) 1 40 false _ A2.out).mono ?_); rintro e w' ⟨rfl, ⟨nd, rfl⟩⟩; refine ⟨_, rfl, ?_⟩))
  go_ret
  exact ⟨dq19, dq17⟩
 subst c3
 have H1 : (if 0 ≤ (l0.length : Int) then (if ((l0.length : Int) : Int).toNat ≤ 35184372088832 then (impl_ParticleOk.l0 k l0 (List.replicate ((l0.length : Int) : Int).toNat 0) (List.replicate ((l0.length : Int) : Int).toNat 0) l0 (l0.length : Int) 0) else (none)) else (none)) = some r := by rw [if_pos rfl] at H; exact H
 clear H
 have H := H1
 clear H1
 by_cases c4 : 0 ≤ (l0.length : Int)
 rotate_left
 ·rw [if_neg c4] at H
  exact absurd H dq24
 rw [if_pos c4] at H
 have c4b0 := eq_true c4
 have c4b1 := decide_eq_true c4
 clear c4
 by_cases c5 : ((l0.length : Int) : Int).toNat ≤ 35184372088832
 rotate_left
 ·rw [if_neg c5] at H
  exact absurd H dq24
 rw [if_pos c5] at H
 have c5b0 := eq_true c5
 have c5b1 := decide_eq_true c5
 clear c5
 obtain ⟨y236, hy236⟩ : ∃ y_ : List Int, y_ = (List.replicate ((l0.length : Int) : Int).toNat 0) := ⟨_, rfl⟩
 replace H : (impl_ParticleOk.l0 k l0 y236 (List.replicate ((l0.length : Int) : Int).toNat 0) l0 (l0.length : Int) 0) = some r := by first | (rw [hy236]; with_reducible exact H) | (have H2_ := (Option.bind_some _ _).symm.trans H; rw [hy236]; with_reducible exact H2_) | (have H2_ := (Option.bind_some _ _).symm.trans H; with_reducible exact H2_) | with_reducible exact H | (rw [hy236]; exact H) | exact H
 have Ny236 := Aside0.mk hy236
 clear hy236
 obtain ⟨y239, hy239⟩ : ∃ y_ : List Int, y_ = (List.replicate ((l0.length : Int) : Int).toNat 0) := ⟨_, rfl⟩
 replace H : (impl_ParticleOk.l0 k l0 y236 y239 l0 (l0.length : Int) 0) = some r := by first | (rw [hy239]; with_reducible exact H) | (have H2_ := (Option.bind_some _ _).symm.trans H; rw [hy239]; with_reducible exact H2_) | (have H2_ := (Option.bind_some _ _).symm.trans H; with_reducible exact H2_) | with_reducible exact H | (rw [hy239]; exact H) | exact H
 have Ny239 := Aside0.mk hy239
 clear hy239
 have H' := Aside0.mk H
 clear H
 go_enter Try.func37, Try.ntmps37
 try go_wp2_with (first | ((with_reducible refine gate_callee (f := 47) rfl ?_); refine goesL_ (some 12) rfl rfl Try.func47 dq21 rfl #[.int .i64 (l0.length : Int), .int .i64 1, .int .i64 40] rfl dq20 ?_; (with_reducible refine (impl_in.calls (l0.length : Int) 1 40 true _ A2.out).mono ?_); rintro e w' ⟨rfl, ⟨nd, rfl⟩⟩; refine ⟨_, rfl, ?_⟩))
 have n0_ : Aside0 (Below w.heap.size w (w.drewN nd).drew) := ⟨below_drew1 (pw_below_drewN HB.out _)⟩
 clear HB
 have HB := n0_
 clear n0_
 refine start_ (n := 8) (S := fun w' => True) (ds := []) #[false, false, false, false, false, false, false, false] dq21 rfl rfl trivial (fun hHeld => ?_); refine with_tabW impl_ParticleOk.tab3 impl_ParticleOk.bits3 (fun HT_ HW_ => ?_)
 generalize (w.drewN nd).drew = w6 at HB hHeld ⊢
 refine pureA (i := 0) (N := some 14) #[true, false, false, false, false, false, false, false] ?_
 refine pureA (i := 1) (N := some 15) #[true, true, false, false, false, false, false, false] ?_
 refine pureA (i := 3) (N := some 17) #[true, true, false, true, false, false, false, false] ?_
 refine pureA (i := 4) (N := some 18) #[true, true, false, true, true, false, false, false] ?_
 refine join_ (σ := Value × Value) 1 #[true, true, true, true, true, true, true, false] (fun s_ => [(16, s_.1), (19, s_.2), (3, s_.1)]) (fun s_ w' => (Kd.R (Kd.int .i64) 2 w' w.heap.size (fun k_ => some k_ ≠ (s_.2 : Value).ownBlock) s_.1 y236) ∧ (Kd.R (Kd.int .i64) 2 w' w.heap.size (fun k_ => some k_ ≠ (s_.1 : Value).ownBlock) s_.2 y239) ∧ (Below w.heap.size w w')) ?_ ?_
 rotate_left
 ·intro hCont
  refine two_ (i := 2) (j := 5) (Ni := some 16) (Nj := some 19) #[true, true, true, true, true, false, false, false] #[true, true, false, true, true, true, false, false] rfl rfl rfl rfl (two_of HT_.out dq21) dq26 dq26 (fun K hK => ?_) (fun K hK => ?_)
  ·skip
   refine Kd.R_make_step (Kd.int .i64) _ 2 (by rfl) (N := 16) rfl 24 _ _ rfl (l0.length : Int) rfl rfl Try.underlying24 (.int .i64 0) 8 info2 rfl dq26 dq25 0 (ok := fun _ => True) (okp := fun _ => True) rfl (fun _ hk => hk) trivial (of_decide_eq_true dq22) (Nat.le_trans (Nat.mul_le_mul_right _ (of_decide_eq_true dq22 : (l0.length : Int).toNat ≤ 35184372088832)) dq25) (Below.refl _ _) (Nat.le_refl _) ?_
   intro v237 w7 ho8 hb hg_ hnew_
   clear hg_ hnew_
   (first | rw [← Ny236.out] at ho8 | (simp only [Int.reduceToNat] at ho8; rw [← Ny236.out] at ho8))
   have n0_ := Aside0.mk (Kd.R_lower ho8 (below_size dq17))
   have n1_ := Aside0.mk (below_step dq17 hb)
   clear HB
   have HO238 := n0_
   have HB := n1_
   clear n0_ n1_
   clear hb ho8
   refine hK.out _ _ trivial (fun hHeld => ?_)
   clear hK K
   refine norm_ (a' := ?_) ?_ ?_
   rotate_left
   ·show Act.put _ (some 16) _ = _
    simp only [Act.put, List.setIfInBounds_toArray, List.set_cons_zero, List.set_cons_succ, i64_w, i32_w]
    rfl
   refine pureA (i := 6) (N := some 3) #[true, true, true, true, true, false, true, false] ?_
   refine one_ (i := 5) (N := some 19) #[true, true, true, true, true, true, true, false] rfl rfl (one_of HT_.out dq21) dq26 (fun K hK => ?_)
   refine Kd.R_make_step (Kd.int .i64) _ 2 (by rfl) (N := 19) rfl 24 _ _ rfl (l0.length : Int) rfl rfl Try.underlying24 (.int .i64 0) 8 info2 rfl dq26 dq25 0 (ok := fun _ => True) (okp := fun _ => True) rfl (fun _ hk => hk) trivial (of_decide_eq_true dq22) (Nat.le_trans (Nat.mul_le_mul_right _ (of_decide_eq_true dq22 : (l0.length : Int).toNat ≤ 35184372088832)) dq25) (Below.refl _ _) (Nat.le_refl _) ?_
   intro v240 w9 ho10 hb hg_ hnew_
   clear hg_ hnew_
   (first | rw [← Ny239.out] at ho10 | (simp only [Int.reduceToNat] at ho10; rw [← Ny239.out] at ho10))
   have n0_ := Aside0.mk (Kd.R_elder' dq102 (Kd.R_base ho10) hb)
   have n1_ := Aside0.mk (Kd.R_lower (Kd.R_new' ho10 (Kd.R_lt dq102)) (below_size dq17))
   have n2_ := Aside0.mk (below_step dq17 hb)
   clear HO238
   clear HB
   have HO238 := n0_
   have HO241 := n1_
   have HB := n2_
   clear n0_ n1_ n2_
   clear hb ho10
   refine hK.out _ _ trivial (fun hHeld => ?_)
   clear hK K
   refine norm_ (a' := ?_) ?_ ?_
   rotate_left
   ·show Act.put _ (some 19) _ = _
    simp only [Act.put, List.setIfInBounds_toArray, List.set_cons_zero, List.set_cons_succ, i64_w, i32_w]
    rfl
   exact norm_ (by simp only [putAll, Act.put, List.setIfInBounds_toArray, List.set_cons_zero, List.set_cons_succ]) (hCont (v237, v240) _ ⟨dq104, dq103, dq17⟩)
  skip
  refine Kd.R_make_step (Kd.int .i64) _ 2 (by rfl) (N := 19) rfl 24 _ _ rfl (l0.length : Int) rfl rfl Try.underlying24 (.int .i64 0) 8 info2 rfl dq26 dq25 0 (ok := fun _ => True) (okp := fun _ => True) rfl (fun _ hk => hk) trivial (of_decide_eq_true dq22) (Nat.le_trans (Nat.mul_le_mul_right _ (of_decide_eq_true dq22 : (l0.length : Int).toNat ≤ 35184372088832)) dq25) (Below.refl _ _) (Nat.le_refl _) ?_
  intro v240 w7 ho8 hb hg_ hnew_
  clear hg_ hnew_
  (first | rw [← Ny239.out] at ho8 | (simp only [Int.reduceToNat] at ho8; rw [← Ny239.out] at ho8))
  have n0_ := Aside0.mk (Kd.R_lower ho8 (below_size dq17))
  have n1_ := Aside0.mk (below_step dq17 hb)
  clear HB
  have HO241 := n0_
  have HB := n1_
  clear n0_ n1_
  clear hb ho8
  refine hK.out _ _ trivial (fun hHeld => ?_)
  clear hK K
  refine norm_ (a' := ?_) ?_ ?_
  rotate_left
  ·show Act.put _ (some 19) _ = _
   simp only [Act.put, List.setIfInBounds_toArray, List.set_cons_zero, List.set_cons_succ, i64_w, i32_w]
   rfl
  refine one_ (i := 2) (N := some 16) #[true, true, true, true, true, true, false, false] rfl rfl (one_of HT_.out dq21) dq26 (fun K hK => ?_)
  refine Kd.R_make_step (Kd.int .i64) _ 2 (by rfl) (N := 16) rfl 24 _ _ rfl (l0.length : Int) rfl rfl Try.underlying24 (.int .i64 0) 8 info2 rfl dq26 dq25 0 (ok := fun _ => True) (okp := fun _ => True) rfl (fun _ hk => hk) trivial (of_decide_eq_true dq22) (Nat.le_trans (Nat.mul_le_mul_right _ (of_decide_eq_true dq22 : (l0.length : Int).toNat ≤ 35184372088832)) dq25) (Below.refl _ _) (Nat.le_refl _) ?_
  intro v237 w9 ho10 hb hg_ hnew_
  clear hg_ hnew_
  (first | rw [← Ny236.out] at ho10 | (simp only [Int.reduceToNat] at ho10; rw [← Ny236.out] at ho10))
  have n0_ := Aside0.mk (Kd.R_elder' dq105 (Kd.R_base ho10) hb)
  have n1_ := Aside0.mk (Kd.R_lower (Kd.R_new' ho10 (Kd.R_lt dq105)) (below_size dq17))
  have n2_ := Aside0.mk (below_step dq17 hb)
  clear HO241
  clear HB
  have HO241 := n0_
  have HO238 := n1_
  have HB := n2_
  clear n0_ n1_ n2_
  clear hb ho10
  refine hK.out _ _ trivial (fun hHeld => ?_)
  clear hK K
  refine norm_ (a' := ?_) ?_ ?_
  rotate_left
  ·show Act.put _ (some 16) _ = _
   simp only [Act.put, List.setIfInBounds_toArray, List.set_cons_zero, List.set_cons_succ, i64_w, i32_w]
   rfl
  refine pureA (i := 6) (N := some 3) #[true, true, true, true, true, true, true, false] ?_
  exact norm_ (by simp only [putAll, Act.put, List.setIfInBounds_toArray, List.set_cons_zero, List.set_cons_succ]) (hCont (v237, v240) _ ⟨dq104, dq103, dq17⟩)
 rintro ⟨v237, v240⟩ w11 ⟨h0_, h1_, h2_⟩
 have n0_ : Aside0 (Kd.R (Kd.int .i64) 2 w11 w.heap.size (fun k_ => some k_ ≠ (v240 : Value).ownBlock) v237 y236) := ⟨h0_⟩
 have n1_ : Aside0 (Kd.R (Kd.int .i64) 2 w11 w.heap.size (fun k_ => some k_ ≠ (v237 : Value).ownBlock) v240 y239) := ⟨h1_⟩
 have n2_ : Aside0 (Below w.heap.size w w11) := ⟨h2_⟩
 clear HB
 clear h0_ h1_ h2_
 have HO238 := n0_
 have HO241 := n1_
 have HB := n2_
 clear n0_ n1_ n2_
 have hHeld := trivial
 refine norm_ (a' := ?_) ?_ ?_
 rotate_left
 ·simp only [putAll, Act.put, List.setIfInBounds_toArray, List.set_cons_zero, List.set_cons_succ]
  rfl
 refine pureA (i := 7) (N := some 4) #[true, true, true, true, true, true, true, true] ?_
 refine done_ (done_of HT_.out dq21) ?_
 try go_wp2
 go_loopg [22] k (fun kq v22 w' => ∃ (x3_1 : List Int) (x4_1 : List Int) (x22_1 : Int), v22 = .int .i64 x22_1 ∧ Aside0 (impl_ParticleOk.l0 kq l0 x3_1 x4_1 l0 (l0.length : Int) x22_1 = some r) ∧ Aside0 (kq ≤ k) ∧ Aside0 (Kd.R (Kd.int .i64) 2 w' w.heap.size (fun k_ => some k_ ≠ (v240 : Value).ownBlock) v237 x3_1) ∧ Aside0 (Kd.R (Kd.int .i64) 2 w' w.heap.size (fun k_ => some k_ ≠ (v237 : Value).ownBlock) v240 x4_1) ∧ Aside0 (Below w.heap.size w w'))
 case atStart => exact ⟨(y236), (y239), (0), dq15, H', ⟨Nat.le_refl _⟩, ⟨dq102⟩, ⟨dq105⟩, ⟨dq17⟩⟩
 clear H'
 try clear c4b0
 try clear c4b1
 try clear c5b0
 try clear c5b1
 obtain ⟨x3_1, x4_1, x22_1, rfl, HA, HK1, HO_3, HO_4, HB⟩ := hrel
 cases gk with
 | zero => exact absurd HA.out (by simp [impl_ParticleOk.l0])
 | succ k1 =>
  have H := HA.out
  clear HA
  simp only [impl_ParticleOk.l0] at H
  by_cases c12 : x22_1 < (l0.length : Int)
  rotate_left
  ·rw [if_neg c12] at H
   have c12b0 := decide_eq_false c12
   clear c12
   obtain ⟨ji54, hji54⟩ : ∃ j_ : Int, (wrap64 ((l0.length : Int) - 1)) = j_ := ⟨_, rfl⟩
   replace H : (if 0 ≤ (ji54) then (if (ji54) < (x3_1.length : Int) then (if (rd x3_1 (ji54)) = 0 then (if (ji54) < (l0.length : Int) then ((impl_PNode_isPosition.f ((rd_T49 l0 (ji54)).f0) ((rd_T49 l0 (ji54)).f1) ((rd_T49 l0 (ji54)).f2) ((rd_T49 l0 (ji54)).f3)).bind fun t244 => (if t244 = true then (some false) else (if (ji54) < (x4_1.length : Int) then (some (decide ((rd x4_1 (ji54)) ≤ 9))) else (none)))) else (none)) else (some false)) else (none)) else (none)) = some r := by first | (rw [hji54] at H; exact H) | (simp only [hji54] at H ⊢; exact H)
   have hji54w : (IntKind.i64.wrap ((l0.length : Int) - 1)) = ji54 := (i64_w _).trans hji54
   by_cases c55 : 0 ≤ (ji54)
   rotate_left
   ·rw [if_neg c55] at H
    exact absurd H dq24
   rw [if_pos c55] at H
   have c55b0 := decide_eq_true c55
   clear c55
   by_cases c56 : (ji54) < (x3_1.length : Int)
   rotate_left
   ·rw [if_neg c56] at H
    exact absurd H dq24
   rw [if_pos c56] at H
   have c56b0 := decide_eq_true c56
   clear c56
   by_cases c57 : (rd x3_1 (ji54)) = 0
   rotate_left
   ·rw [if_neg c57] at H
    have c57b0 := beq_eq_false_iff_ne.mpr c57
    have c57b1 := bne_iff_ne.mpr c57
    obtain rfl := Option.some.inj H
    obtain ⟨Ao67, co67, eo67⟩ := Kd.R_slice HO_3.out
    subst eo67
    have p242 : 0 ≤ ((ji54) : Int) := of_decide_eq_true dq22
    have q242 : (ji54) < (x3_1.length : Int) := of_decide_eq_true dq22
    obtain ⟨ad242, e242, hx242_0⟩ := Kd.at_int (Kd.R_reads' HO_3.out).2.2 (ji54) p242 q242
    cases e242
    replace p242 := eq_true p242
    replace q242 := eq_true q242
    go_wp2
    go_ret
    exact ⟨dq111, dq17⟩
   rw [if_pos c57] at H
   have c57b0 := beq_iff_eq.mpr c57
   have c57b1 := bne_eq_false_iff_eq.mpr c57
   clear c57
   by_cases c58 : (ji54) < (l0.length : Int)
   rotate_left
   ·rw [if_neg c58] at H
    exact absurd H dq24
   rw [if_pos c58] at H
   have c58b0 := decide_eq_true c58
   clear c58
   replace H := Option.bind_eq_some_iff.mp H
   obtain ⟨t244, A590, H⟩ := H
   replace H : (if t244 = true then (some false) else (if (ji54) < (x4_1.length : Int) then (some (decide ((rd x4_1 (ji54)) ≤ 9))) else (none))) = some r := H
   have A59 := Aside0.mk A590
   clear A590
   by_cases c60 : t244 = true
   ·subst c60
    have H1 : (some false) = some r := by rw [if_pos rfl] at H; exact H
    clear H
    have H := H1
    clear H1
    obtain rfl := Option.some.inj H
    obtain ⟨Ao61, co61, eo61⟩ := Kd.R_slice HO_3.out
    subst eo61
    have p242 : 0 ≤ ((ji54) : Int) := of_decide_eq_true dq22
    have q242 : (ji54) < (x3_1.length : Int) := of_decide_eq_true dq22
    obtain ⟨ad242, e242, hx242_0⟩ := Kd.at_int (Kd.R_reads' HO_3.out).2.2 (ji54) p242 q242
    cases e242
    replace p242 := eq_true p242
    replace q242 := eq_true q242
    have p243 : 0 ≤ ((ji54) : Int) := of_decide_eq_true dq22
    have q243 : (ji54) < (l0.length : Int) := of_decide_eq_true dq22
    obtain ⟨ad243, A243_2, c243_2, e243, hx243_0, hx243_1, hx243_2, hx243_3, hl243_2, hi243_2⟩ := at_T49 HR0.out (ji54) p243 q243
    cases e243
    replace hx243_0 := (HB.out.cell (World.block_lt_of_cell? w _ hx243_0)).trans hx243_0
    replace hx243_1 := (HB.out.cell (World.block_lt_of_cell? w _ hx243_1)).trans hx243_1
    replace hx243_2 := (HB.out.cell (World.block_lt_of_cell? w _ hx243_2)).trans hx243_2
    replace hx243_3 := (HB.out.cell (World.block_lt_of_cell? w _ hx243_3)).trans hx243_3
    have HR243_2 := Aside0.mk hi243_2
    have HC243_2 := Aside0.mk hl243_2
    clear hi243_2 hl243_2
    replace p243 := eq_true p243
    replace q243 := eq_true q243
    go_wp2_with (first | (go_at_call 48; (with_reducible refine (impl_PNode_isPosition.calls ((rd_T49 l0 (ji54)).f0) ((rd_T49 l0 (ji54)).f1) _ _ ((rd_T49 l0 (ji54)).f2) ((rd_T49 l0 (ji54)).f3) true _ ?side1 ?side2 A59.out).mono ?_); (case side1 => repeat (first | exact (Kd.C_below HR243_2.out HB.out) | (with_reducible refine Kd.C_alloc ?_ _) | (with_reducible refine Kd.C_drewN ?_ _) | (with_reducible refine Kd.C_drew ?_))); (case side2 => exact HC243_2.out); rintro e w62 ⟨rfl, hb⟩; have n0_ := Aside0.mk (Kd.R_below dq27 hb); have n1_ := Aside0.mk (Kd.R_below dq106 hb); have n2_ := Aside0.mk (below_step dq17 hb); clear HO_3; clear HO_4; clear HB; have HO_3 := n0_; have HO_4 := n1_; have HB := n2_; clear n0_ n1_ n2_; (try clear hb); (try clear hb2); (try clear hk); (try clear hi)))
    go_ret
    exact ⟨dq111, dq17⟩
   replace c60 := Bool.eq_false_iff.mpr c60
   subst c60
   have H1 : (if (ji54) < (x4_1.length : Int) then (some (decide ((rd x4_1 (ji54)) ≤ 9))) else (none)) = some r := by rw [if_neg (show ¬ (false = true) by decide)] at H; exact H
   clear H
   have H := H1
   clear H1
   by_cases c63 : (ji54) < (x4_1.length : Int)
   rotate_left
   ·rw [if_neg c63] at H
    exact absurd H dq24
   rw [if_pos c63] at H
   have c63b0 := decide_eq_true c63
   clear c63
   obtain rfl := Option.some.inj H
   obtain ⟨Ao64, co64, eo64⟩ := Kd.R_slice HO_3.out
   subst eo64
   have p242 : 0 ≤ ((ji54) : Int) := of_decide_eq_true dq22
   have q242 : (ji54) < (x3_1.length : Int) := of_decide_eq_true dq22
   obtain ⟨ad242, e242, hx242_0⟩ := Kd.at_int (Kd.R_reads' HO_3.out).2.2 (ji54) p242 q242
   cases e242
   replace p242 := eq_true p242
   replace q242 := eq_true q242
   have p243 : 0 ≤ ((ji54) : Int) := of_decide_eq_true dq22
   have q243 : (ji54) < (l0.length : Int) := of_decide_eq_true dq22
   obtain ⟨ad243, A243_2, c243_2, e243, hx243_0, hx243_1, hx243_2, hx243_3, hl243_2, hi243_2⟩ := at_T49 HR0.out (ji54) p243 q243
   cases e243
   replace hx243_0 := (HB.out.cell (World.block_lt_of_cell? w _ hx243_0)).trans hx243_0
   replace hx243_1 := (HB.out.cell (World.block_lt_of_cell? w _ hx243_1)).trans hx243_1
   replace hx243_2 := (HB.out.cell (World.block_lt_of_cell? w _ hx243_2)).trans hx243_2
   replace hx243_3 := (HB.out.cell (World.block_lt_of_cell? w _ hx243_3)).trans hx243_3
   have HR243_2 := Aside0.mk hi243_2
   have HC243_2 := Aside0.mk hl243_2
   clear hi243_2 hl243_2
   replace p243 := eq_true p243
   replace q243 := eq_true q243
   go_wp2_with (first | (go_at_call 48; (with_reducible refine (impl_PNode_isPosition.calls ((rd_T49 l0 (ji54)).f0) ((rd_T49 l0 (ji54)).f1) _ _ ((rd_T49 l0 (ji54)).f2) ((rd_T49 l0 (ji54)).f3) false _ ?side1 ?side2 A59.out).mono ?_); (case side1 => repeat (first | exact (Kd.C_below HR243_2.out HB.out) | (with_reducible refine Kd.C_alloc ?_ _) | (with_reducible refine Kd.C_drewN ?_ _) | (with_reducible refine Kd.C_drew ?_))); (case side2 => exact HC243_2.out); rintro e w65 ⟨rfl, hb⟩; have n0_ := Aside0.mk (Kd.R_below dq27 hb); have n1_ := Aside0.mk (Kd.R_below dq106 hb); have n2_ := Aside0.mk (below_step dq17 hb); clear HO_3; clear HO_4; clear HB; have HO_3 := n0_; have HO_4 := n1_; have HB := n2_; clear n0_ n1_ n2_; (try clear hb); (try clear hb2); (try clear hk); (try clear hi); obtain ⟨Ao66, co66, eo66⟩ := Kd.R_slice HO_4.out; subst eo66; have p245 : 0 ≤ ((ji54) : Int) := of_decide_eq_true dq22; have q245 : (ji54) < (x4_1.length : Int) := of_decide_eq_true dq22; obtain ⟨ad245, e245, hx245_0⟩ := Kd.at_int (Kd.R_reads' HO_4.out).2.2 (ji54) p245 q245; cases e245; replace p245 := eq_true p245; replace q245 := eq_true q245))
   go_ret
   exact ⟨dq111, dq17⟩
  rw [if_pos c12] at H
  have c12b0 := decide_eq_true c12
  clear c12
  by_cases c13 : 0 ≤ x22_1
  rotate_left
  ·rw [if_neg c13] at H
   exact absurd H dq24
  rw [if_pos c13] at H
  have c13b0 := decide_eq_true c13
  clear c13
  by_cases c14 : x22_1 < (l0.length : Int)
  rotate_left
  ·rw [if_neg c14] at H
   exact absurd H dq24
  rw [if_pos c14] at H
  have c14b0 := decide_eq_true c14
  clear c14
  have HC15 := Aside0.mk H
  clear H
  have p246 : 0 ≤ (x22_1 : Int) := of_decide_eq_true dq22
  have q246 : x22_1 < (l0.length : Int) := of_decide_eq_true dq22
  obtain ⟨ad246, A246_2, c246_2, e246, hx246_0, hx246_1, hx246_2, hx246_3, hl246_2, hi246_2⟩ := at_T49 HR0.out x22_1 p246 q246
  cases e246
  replace hx246_0 := (HB.out.cell (World.block_lt_of_cell? w _ hx246_0)).trans hx246_0
  replace hx246_1 := (HB.out.cell (World.block_lt_of_cell? w _ hx246_1)).trans hx246_1
  replace hx246_2 := (HB.out.cell (World.block_lt_of_cell? w _ hx246_2)).trans hx246_2
  replace hx246_3 := (HB.out.cell (World.block_lt_of_cell? w _ hx246_3)).trans hx246_3
  have HR246_2 := Aside0.mk hi246_2
  have HC246_2 := Aside0.mk hl246_2
  clear hi246_2 hl246_2
  replace p246 := eq_true p246
  replace q246 := eq_true q246
  go_upto_region 7 with (first | ((with_reducible refine gate_dst (N := 6) rfl ?_); refine box_event ?hg (N := 6) ?hd (cs := #[.int .i64 0, .string (⟨#[]⟩ : ByteArray), .slice none 0 0, .int .i64 0]) (t := 49) ?hr ?_; (case hd => rfl); (case hg => rfl); (case hr => exact dq0); intro gb247 hg w16 hbox hb; have n0_ := Aside0.mk (Kd.R_below dq27 hb); have n1_ := Aside0.mk (Kd.R_below dq106 hb); have n2_ := Aside0.mk (below_step dq17 hb); have n3_ := Aside0.mk (hbox); have n4_ := Aside0.mk ((dq16 : w.heap.size ≤ gb247)); have n5_ := Aside0.mk ((dq16 : w.heap.size ≤ gb247)); clear HO_3; clear HO_4; clear HB; have HO_3 := n0_; have HO_4 := n1_; have HB := n2_; have BK247 := n3_; have GW247 := n4_; have GE247 := n5_; clear n0_ n1_ n2_ n3_ n4_ n5_; clear hb hbox hg; obtain ⟨⟨hcz17_0, hcz17_1, hcz17_2, hcz17_3⟩, hfz17_0, hfz17_1, hfz17_2, hfz17_3⟩ := blkC4 BK247.out))
  (try simp only [Act.put, List.setIfInBounds_toArray, List.set_cons_zero, List.set_cons_succ])
  go_cut [35] (fun v35 wc => ∃ (kq : Nat) (x35_14 : Bool), v35 = .bool x35_14 ∧ Aside0 (impl_ParticleOk.j1 kq l0 x3_1 x4_1 x22_1 l0 (l0.length : Int) x22_1 x35_14 ((rd_T49 l0 x22_1).f0) ((rd_T49 l0 x22_1).f1) ((rd_T49 l0 x22_1).f2) ((rd_T49 l0 x22_1).f3) = some r) ∧ Aside0 (kq ≤ k1) ∧ Aside0 (Kd.R (Kd.int .i64) 2 wc w.heap.size (fun k_ => some k_ ≠ (v240 : Value).ownBlock) v237 x3_1) ∧ Aside0 (Kd.R (Kd.int .i64) 2 wc w.heap.size (fun k_ => some k_ ≠ (v237 : Value).ownBlock) v240 x4_1) ∧ Aside0 (wc.heap[gb247]? = some (.cells #[.int .i64 ((rd_T49 l0 x22_1).f0), .string ((rd_T49 l0 x22_1).f1), (.slice A246_2 ((rd_T49 l0 x22_1).f2).length c246_2), .int .i64 ((rd_T49 l0 x22_1).f3)] 49 (0, 0))) ∧ Aside0 (Below w.heap.size w wc))
  case first =>
   have H := HC15.out
   clear HC15
   replace H := Option.bind_eq_some_iff.mp H
   obtain ⟨t248, A180, H⟩ := H
   replace H : (if t248 = true then ((impl_in.f ((rd_T49 l0 x22_1).f3) 0 3).bind fun t249 => (impl_ParticleOk.j1 k1 l0 x3_1 x4_1 x22_1 l0 (l0.length : Int) x22_1 (!t249) ((rd_T49 l0 x22_1).f0) ((rd_T49 l0 x22_1).f1) ((rd_T49 l0 x22_1).f2) ((rd_T49 l0 x22_1).f3))) else (impl_ParticleOk.j1 k1 l0 x3_1 x4_1 x22_1 l0 (l0.length : Int) x22_1 true ((rd_T49 l0 x22_1).f0) ((rd_T49 l0 x22_1).f1) ((rd_T49 l0 x22_1).f2) ((rd_T49 l0 x22_1).f3))) = some r := H
   have A18 := Aside0.mk A180
   clear A180
   by_cases c19 : t248 = true
   rotate_left
   ·replace c19 := Bool.eq_false_iff.mpr c19
    subst c19
    have H1 : (impl_ParticleOk.j1 k1 l0 x3_1 x4_1 x22_1 l0 (l0.length : Int) x22_1 true ((rd_T49 l0 x22_1).f0) ((rd_T49 l0 x22_1).f1) ((rd_T49 l0 x22_1).f2) ((rd_T49 l0 x22_1).f3)) = some r := by rw [if_neg (show ¬ (false = true) by decide)] at H; exact H
    clear H
    have H := H1
    clear H1
    have H' := Aside0.mk H
    clear H
    obtain ⟨⟨hcz24_0, hcz24_1, hcz24_2, hcz24_3⟩, hfz24_0, hfz24_1, hfz24_2, hfz24_3⟩ := blkC4 BK247.out
    go_wp2_with (first | ((with_reducible refine gate_callee (f := 64) rfl ?_); refine goesL_ (some 28) rfl rfl Try.func64 dq21 rfl #[.agg #[.int .i64 ((rd_T49 l0 x22_1).f0), .string ((rd_T49 l0 x22_1).f1), .slice A246_2 ((rd_T49 l0 x22_1).f2).length c246_2, .int .i64 ((rd_T49 l0 x22_1).f3)]] rfl dq20 ?_; (with_reducible refine (impl_PNode_fits.calls k1 ((rd_T49 l0 x22_1).f0) ((rd_T49 l0 x22_1).f1) _ _ ((rd_T49 l0 x22_1).f2) ((rd_T49 l0 x22_1).f3) false _ ?side1 ?side2 A18.out).mono ?_); (case side1 => exact dq6); (case side2 => exact HC246_2.out); rintro e w25 ⟨rfl, hb⟩; refine ⟨_, rfl, ?_⟩; have n0_ := Aside0.mk (Kd.R_below dq110 hb); have n1_ := Aside0.mk (Kd.R_below dq109 hb); have n2_ := Aside0.mk (blk_below (g := gb247) (o := .cells #[.int .i64 ((rd_T49 l0 x22_1).f0), .string ((rd_T49 l0 x22_1).f1), .slice A246_2 ((rd_T49 l0 x22_1).f2).length c246_2, .int .i64 ((rd_T49 l0 x22_1).f3)] 49 (0, 0)) dq108 hb); have n3_ := Aside0.mk (below_step dq107 hb); clear HO_3; clear HO_4; clear BK247; clear HB; have HO_3 := n0_; have HO_4 := n1_; have BK247 := n2_; have HB := n3_; clear n0_ n1_ n2_ n3_; (try clear hb); (try clear hb2); (try clear hk); (try clear hi)))
    go_meet
    case rel => exact ⟨_, (true), dq15, H', ⟨dq46⟩, ⟨dq27⟩, ⟨dq106⟩, ⟨by refine blk_up ?_; exact BK247.out⟩, ⟨dq107⟩⟩
   subst c19
   have H1 : ((impl_in.f ((rd_T49 l0 x22_1).f3) 0 3).bind fun t249 => (impl_ParticleOk.j1 k1 l0 x3_1 x4_1 x22_1 l0 (l0.length : Int) x22_1 (!t249) ((rd_T49 l0 x22_1).f0) ((rd_T49 l0 x22_1).f1) ((rd_T49 l0 x22_1).f2) ((rd_T49 l0 x22_1).f3))) = some r := by rw [if_pos rfl] at H; exact H
   clear H
   have H := H1
   clear H1
   replace H := Option.bind_eq_some_iff.mp H
   obtain ⟨t249, A200, H⟩ := H
   replace H : (impl_ParticleOk.j1 k1 l0 x3_1 x4_1 x22_1 l0 (l0.length : Int) x22_1 (!t249) ((rd_T49 l0 x22_1).f0) ((rd_T49 l0 x22_1).f1) ((rd_T49 l0 x22_1).f2) ((rd_T49 l0 x22_1).f3)) = some r := H
   have A20 := Aside0.mk A200
   clear A200
   have H' := Aside0.mk H
   clear H
   obtain ⟨⟨hcz21_0, hcz21_1, hcz21_2, hcz21_3⟩, hfz21_0, hfz21_1, hfz21_2, hfz21_3⟩ := blkC4 BK247.out
   go_wp2_with (first | ((with_reducible refine gate_callee (f := 64) rfl ?_); refine goesL_ (some 28) rfl rfl Try.func64 dq21 rfl #[.agg #[.int .i64 ((rd_T49 l0 x22_1).f0), .string ((rd_T49 l0 x22_1).f1), .slice A246_2 ((rd_T49 l0 x22_1).f2).length c246_2, .int .i64 ((rd_T49 l0 x22_1).f3)]] rfl dq20 ?_; (with_reducible refine (impl_PNode_fits.calls k1 ((rd_T49 l0 x22_1).f0) ((rd_T49 l0 x22_1).f1) _ _ ((rd_T49 l0 x22_1).f2) ((rd_T49 l0 x22_1).f3) true _ ?side1 ?side2 A18.out).mono ?_); (case side1 => exact dq6); (case side2 => exact HC246_2.out); rintro e w22 ⟨rfl, hb⟩; refine ⟨_, rfl, ?_⟩; have n0_ := Aside0.mk (Kd.R_below dq110 hb); have n1_ := Aside0.mk (Kd.R_below dq109 hb); have n2_ := Aside0.mk (blk_below (g := gb247) (o := .cells #[.int .i64 ((rd_T49 l0 x22_1).f0), .string ((rd_T49 l0 x22_1).f1), .slice A246_2 ((rd_T49 l0 x22_1).f2).length c246_2, .int .i64 ((rd_T49 l0 x22_1).f3)] 49 (0, 0)) dq108 hb); have n3_ := Aside0.mk (below_step dq107 hb); clear HO_3; clear HO_4; clear BK247; clear HB; have HO_3 := n0_; have HO_4 := n1_; have BK247 := n2_; have HB := n3_; clear n0_ n1_ n2_ n3_; (try clear hb); (try clear hb2); (try clear hk); (try clear hi); obtain ⟨⟨hcz23_0, hcz23_1, hcz23_2, hcz23_3⟩, hfz23_0, hfz23_1, hfz23_2, hfz23_3⟩ := blkC4 BK247.out) | (go_at_call 47; (with_reducible refine (impl_in.calls ((rd_T49 l0 x22_1).f3) 0 3 t249 _ A20.out).mono ?_); rintro e w' ⟨rfl, ⟨nd, rfl⟩⟩))
   go_meet
   case rel => exact ⟨_, (!t249), dq15, H', ⟨dq46⟩, ⟨dq27⟩, ⟨dq106⟩, ⟨by refine blk_up ?_; exact BK247.out⟩, ⟨dq107⟩⟩
  clear HC15
  try clear c12b0
  try clear c13b0
  try clear c14b0
  try clear hcz17_0
  try clear hcz17_1
  try clear hcz17_2
  try clear hcz17_3
  try clear hfz17_0
  try clear hfz17_1
  try clear hfz17_2
  try clear hfz17_3
  try clear hx246_0
  try clear hx246_1
  try clear hx246_2
  try clear hx246_3
  try clear p246
  try clear q246
  obtain ⟨kq, x35_14, rfl, HA, HJ14, HO_3, HO_4, BK247, HB⟩ := hcut
  cases kq with
  | zero => exact absurd HA.out (by simp [impl_ParticleOk.j1])
  | succ kj14 =>
   have H := HA.out
   clear HA
   simp only [impl_ParticleOk.j1] at H
   by_cases c26 : x35_14 = true
   ·subst c26
    have H1 : (some false) = some r := by rw [if_pos rfl] at H; exact H
    clear H
    have H := H1
    clear H1
    obtain rfl := Option.some.inj H
    go_wp2
    go_ret
    exact ⟨dq19, dq107⟩
   replace c26 := Bool.eq_false_iff.mpr c26
   subst c26
   have H1 : (if 0 ≤ x22_1 then (if x22_1 < (x3_1.length : Int) then (impl_ParticleOk.l1 kj14 l0 (x3_1.set (x22_1 : Int).toNat x22_1) x4_1 x22_1 (wrap64 ((((rd_T49 l0 x22_1).f2).length : Int) - 1)) l0 (l0.length : Int) x22_1 ((rd_T49 l0 x22_1).f0) ((rd_T49 l0 x22_1).f1) ((rd_T49 l0 x22_1).f2) ((rd_T49 l0 x22_1).f3)) else (none)) else (none)) = some r := by rw [if_neg (show ¬ (false = true) by decide)] at H; exact H
   clear H
   have H := H1
   clear H1
   by_cases c27 : 0 ≤ x22_1
   rotate_left
   ·rw [if_neg c27] at H
    exact absurd H dq24
   rw [if_pos c27] at H
   have c27b0 := decide_eq_true c27
   clear c27
   by_cases c28 : x22_1 < (x3_1.length : Int)
   rotate_left
   ·rw [if_neg c28] at H
    exact absurd H dq24
   rw [if_pos c28] at H
   have c28b0 := decide_eq_true c28
   clear c28
   obtain ⟨y250, hy250⟩ : ∃ y_ : List Int, y_ = (x3_1.set (x22_1 : Int).toNat x22_1) := ⟨_, rfl⟩
   replace H : (impl_ParticleOk.l1 kj14 l0 y250 x4_1 x22_1 (wrap64 ((((rd_T49 l0 x22_1).f2).length : Int) - 1)) l0 (l0.length : Int) x22_1 ((rd_T49 l0 x22_1).f0) ((rd_T49 l0 x22_1).f1) ((rd_T49 l0 x22_1).f2) ((rd_T49 l0 x22_1).f3)) = some r := by first | (rw [hy250]; with_reducible exact H) | (have H2_ := (Option.bind_some _ _).symm.trans H; rw [hy250]; with_reducible exact H2_) | (have H2_ := (Option.bind_some _ _).symm.trans H; with_reducible exact H2_) | with_reducible exact H | (rw [hy250]; exact H) | exact H
   have Ny250 := Aside0.mk hy250
   clear hy250
   have H' := Aside0.mk H
   clear H
   have p29 : 0 ≤ (x22_1 : Int) := of_decide_eq_true dq22
   have q29 : (x22_1 : Int) < ((x3_1.length : Int) : Int) := of_decide_eq_true dq22
   obtain ⟨go29, co29, eo29, gb29, gl29, cl29, HG29⟩ := Kd.R_form HO_3.out dq25
   (first | cases eo29 | (injection eo29 with ea_ en_ ec_; (first | subst ea_ | (injection ea_ with ea_; subst ea_)); subst ec_; clear en_))
   have GB29 := Aside0.mk gb29
   have GG29 := Aside0.mk HG29
   clear gb29 gl29 HG29
   obtain ⟨hx29_0, hf29_0⟩ := Kd.R_celln 0 HO_3.out (x22_1 : Int) p29 q29
   replace p29 := eq_true p29
   replace q29 := eq_true q29
   have HP30 := Kd.R_putg HO_3.out (x22_1 : Int) x22_1
   go_wp2_with (first | ((with_reducible refine gate_store (t := 2) (p := 39) rfl ?_); refine store_event (t := 2) (p := 39) (v := ?vo_w31) (w1 := (wc.setCell ⟨go29, (x22_1 : Int).toNat, none⟩ (.int .i64 x22_1))) ?hg ?ho ?hn ?hr ?_; (case ho => rfl); (case hg => rfl); (case hn => rfl); (case hr => exact dq0); intro w31 hw; have hg : wc.grownBy w31 (some go29) := (by rw [hw]; exact HP30.2); have hp_ : Kd.R (Kd.int .i64) 2 w31 w.heap.size (fun k_ => some k_ ≠ (v240 : Value).ownBlock) (.slice (some ⟨go29, 0, none⟩) x3_1.length co29) y250 := (by rw [hw, Ny250.out]; exact HP30.1); clear HP30; have n0_ := Aside0.mk (hp_); have n1_ := Aside0.mk (Kd.R_after (v := (.slice (some ⟨go29, 0, none⟩) x3_1.length co29)) (v1 := (.slice (some ⟨go29, 0, none⟩) x3_1.length co29)) (ok := (fun _ => True)) (by (with_reducible repeat (first | apply Kd.R_alloc | apply Kd.R_drewN | apply Kd.R_drew)); exact Kd.R_mono HO_4.out (fun _ hk => ⟨trivial, hk⟩)) hg (.inl rfl)); have n2_ := Aside0.mk (blk_grown (g := gb247) (o := .cells #[.int .i64 ((rd_T49 l0 x22_1).f0), .string ((rd_T49 l0 x22_1).f1), .slice A246_2 ((rd_T49 l0 x22_1).f2).length c246_2, .int .i64 ((rd_T49 l0 x22_1).f3)] 49 (0, 0)) (by refine blk_up ?_; exact BK247.out) hg (Kd.R_ne HO_3.out BK247.out dq26)); have n3_ := Aside0.mk ((by rw [hw]; exact below_set (HB.out) GB29.out : Below w.heap.size w w31)); clear HO_3; clear HO_4; clear BK247; clear HB; have HO_3 := n0_; have HO_4 := n1_; have BK247 := n2_; have HB := n3_; clear n0_ n1_ n2_ n3_; clear hg hw hp_; obtain ⟨⟨hcz32_0, hcz32_1, hcz32_2, hcz32_3⟩, hfz32_0, hfz32_1, hfz32_2, hfz32_3⟩ := blkC4 BK247.out))
   go_loopg [7] kj14 (fun kq v7 w' => ∃ (x3_3 : List Int) (x4_3 : List Int) (x7_3 : Int), v7 = .int .i64 x7_3 ∧ Aside0 (impl_ParticleOk.l1 kq l0 x3_3 x4_3 x22_1 x7_3 l0 (l0.length : Int) x22_1 ((rd_T49 l0 x22_1).f0) ((rd_T49 l0 x22_1).f1) ((rd_T49 l0 x22_1).f2) ((rd_T49 l0 x22_1).f3) = some r) ∧ Aside0 (kq ≤ kj14) ∧ Aside0 (Kd.R (Kd.int .i64) 2 w' w.heap.size (fun k_ => some k_ ≠ (v240 : Value).ownBlock) (.slice (some ⟨go29, 0, none⟩) x3_1.length co29) x3_3) ∧ Aside0 (Kd.R (Kd.int .i64) 2 w' w.heap.size (fun k_ => some k_ ≠ ((.slice (some ⟨go29, 0, none⟩) x3_1.length co29) : Value).ownBlock) v240 x4_3) ∧ Aside0 (w'.heap[gb247]? = some (.cells #[.int .i64 ((rd_T49 l0 x22_1).f0), .string ((rd_T49 l0 x22_1).f1), (.slice A246_2 ((rd_T49 l0 x22_1).f2).length c246_2), .int .i64 ((rd_T49 l0 x22_1).f3)] 49 (0, 0))) ∧ Aside0 (Below w.heap.size w w'))
   case atStart => exact ⟨(y250), (x4_1), (wrap64 ((((rd_T49 l0 x22_1).f2).length : Int) - 1)), dq15, H', ⟨Nat.le_refl _⟩, ⟨dq27⟩, ⟨by (with_reducible repeat (first | apply Kd.R_alloc | apply Kd.R_drewN | apply Kd.R_drew)); exact Kd.R_mono HO_4.out (fun _ hk => hk.2)⟩, ⟨by refine blk_up ?_; exact BK247.out⟩, ⟨dq107⟩⟩
   clear H'
   try clear c27b0
   try clear c28b0
   try clear p29
   try clear q29
   try clear hcz32_0
   try clear hcz32_1
   try clear hcz32_2
   try clear hcz32_3
   try clear hfz32_0
   try clear hfz32_1
   try clear hfz32_2
   try clear hfz32_3
   try clear hx29_0
   obtain ⟨x3_3, x4_3, x7_3, rfl, HA, HK3, HO_3, HO_4, BK247, HB⟩ := hrel
   have hl3_3 := (Kd.R_reads' HO_3.out).1
   rw [hl3_3] at HO_3
   (try simp only [hl3_3])
   (try simp only [hl3_3] at BK247)
   (try simp only [hl3_3] at HO_4)
   cases gk with
   | zero => exact absurd HA.out (by simp [impl_ParticleOk.l1])
   | succ k3 =>
    have H := HA.out
    clear HA
    simp only [impl_ParticleOk.l1] at H
    by_cases c33 : x7_3 ≥ 0
    rotate_left
    ·rw [if_neg c33] at H
     have c33b0 : decide (0 ≤ x7_3) = false := decide_eq_false c33
     clear c33
     have H' := Aside0.mk H
     clear H
     go_wp2
     (try simp only [← hl3_3])
     go_roundg k3
     case measure => have := HK1.out; have := HJ14.out; have := HK3.out; omega
     case rel => exact ⟨(x3_3), (x4_3), (wrap64 (x22_1 + 1)), dq15, H', ⟨by have := HK1.out; have := HJ14.out; have := HK3.out; omega⟩, ⟨by (try simp only [hl3_3]); (with_reducible repeat (first | apply Kd.R_alloc | apply Kd.R_drewN | apply Kd.R_drew)); exact HO_3.out⟩, ⟨by (try simp only [hl3_3]); (with_reducible repeat (first | apply Kd.R_alloc | apply Kd.R_drewN | apply Kd.R_drew)); exact HO_4.out⟩, ⟨dq107⟩⟩
    rw [if_pos c33] at H
    have c33b0 : decide (0 ≤ x7_3) = true := decide_eq_true c33
    clear c33
    by_cases c34 : 0 ≤ x7_3
    rotate_left
    ·rw [if_neg c34] at H
     exact absurd H dq24
    rw [if_pos c34] at H
    have c34b0 := decide_eq_true c34
    clear c34
    by_cases c35 : x7_3 < (((rd_T49 l0 x22_1).f2).length : Int)
    rotate_left
    ·rw [if_neg c35] at H
     exact absurd H dq24
    rw [if_pos c35] at H
    have c35b0 := decide_eq_true c35
    clear c35
    by_cases c36 : (rd ((rd_T49 l0 x22_1).f2) x7_3) < 0
    ·rw [if_pos c36] at H
     have c36b0 := decide_eq_true c36
     clear c36
     obtain rfl := Option.some.inj H
     obtain ⟨⟨hcz37_0, hcz37_1, hcz37_2, hcz37_3⟩, hfz37_0, hfz37_1, hfz37_2, hfz37_3⟩ := blkC4 BK247.out
     have p251 : 0 ≤ (x7_3 : Int) := of_decide_eq_true dq22
     have q251 : x7_3 < (((rd_T49 l0 x22_1).f2).length : Int) := of_decide_eq_true dq22
     obtain ⟨ad251, e251, hx251_0⟩ := Kd.at_int HR246_2.out x7_3 p251 q251
     cases e251
     replace hx251_0 := (HB.out.cell (World.block_lt_of_cell? w _ hx251_0)).trans hx251_0
     replace p251 := eq_true p251
     replace q251 := eq_true q251
     go_wp2
     go_ret
     exact ⟨dq19, dq107⟩
    rw [if_neg c36] at H
    have c36b0 := decide_eq_false c36
    clear c36
    by_cases c38 : 0 ≤ x22_1
    rotate_left
    ·rw [if_neg c38] at H
     exact absurd H dq24
    rw [if_pos c38] at H
    have c38b0 := decide_eq_true c38
    clear c38
    by_cases c39 : x22_1 < (x3_3.length : Int)
    rotate_left
    ·rw [if_neg c39] at H
     exact absurd H dq24
    rw [if_pos c39] at H
    have c39b0 := decide_eq_true c39
    clear c39
    by_cases c40 : (rd ((rd_T49 l0 x22_1).f2) x7_3) = (wrap64 ((rd x3_3 x22_1) - 1))
    rotate_left
    ·rw [if_neg c40] at H
     have c40b0 := beq_eq_false_iff_ne.mpr c40
     have c40b1 := bne_iff_ne.mpr c40
     obtain rfl := Option.some.inj H
     obtain ⟨⟨hcz53_0, hcz53_1, hcz53_2, hcz53_3⟩, hfz53_0, hfz53_1, hfz53_2, hfz53_3⟩ := blkC4 BK247.out
     have p251 : 0 ≤ (x7_3 : Int) := of_decide_eq_true dq22
     have q251 : x7_3 < (((rd_T49 l0 x22_1).f2).length : Int) := of_decide_eq_true dq22
     obtain ⟨ad251, e251, hx251_0⟩ := Kd.at_int HR246_2.out x7_3 p251 q251
     cases e251
     replace hx251_0 := (HB.out.cell (World.block_lt_of_cell? w _ hx251_0)).trans hx251_0
     replace p251 := eq_true p251
     replace q251 := eq_true q251
     have p252 : 0 ≤ (x22_1 : Int) := of_decide_eq_true dq22
     have q252 : x22_1 < (x3_3.length : Int) := of_decide_eq_true dq22
     obtain ⟨ad252, e252, hx252_0⟩ := Kd.at_int (Kd.R_reads' HO_3.out).2.2 x22_1 p252 q252
     obtain rfl : (⟨go29, 0, none⟩ : Addr) = ad252 := (by injection e252)
     (first | simp only [add_plain] at hx252_0 | simp only [add_at] at hx252_0 | simp only [Addr.add, Nat.zero_add] at hx252_0 | skip)
     replace p252 := eq_true p252
     replace q252 := eq_true q252
     go_wp2
     go_ret
     exact ⟨dq19, dq107⟩
    rw [if_pos c40] at H
    have c40b0 := beq_iff_eq.mpr c40
    have c40b1 := bne_eq_false_iff_eq.mpr c40
    clear c40
    by_cases c41 : 0 ≤ (rd ((rd_T49 l0 x22_1).f2) x7_3)
    rotate_left
    ·rw [if_neg c41] at H
     exact absurd H dq24
    rw [if_pos c41] at H
    have c41b0 := decide_eq_true c41
    clear c41
    by_cases c42 : (rd ((rd_T49 l0 x22_1).f2) x7_3) < (x3_3.length : Int)
    rotate_left
    ·rw [if_neg c42] at H
     exact absurd H dq24
    rw [if_pos c42] at H
    have c42b0 := decide_eq_true c42
    clear c42
    by_cases c43 : x22_1 < (x4_3.length : Int)
    rotate_left
    ·rw [if_neg c43] at H
     exact absurd H dq24
    rw [if_pos c43] at H
    have c43b0 := decide_eq_true c43
    clear c43
    by_cases c44 : (rd ((rd_T49 l0 x22_1).f2) x7_3) < (x4_3.length : Int)
    rotate_left
    ·rw [if_neg c44] at H
     exact absurd H dq24
    rw [if_pos c44] at H
    have c44b0 := decide_eq_true c44
    clear c44
    obtain ⟨ji45, hji45⟩ : ∃ j_ : Int, (mx (rd x4_3 x22_1) (wrap64 ((rd x4_3 (rd ((rd_T49 l0 x22_1).f2) x7_3)) + 1))) = j_ := ⟨_, rfl⟩
    replace H : (impl_ParticleOk.l1 k3 l0 (x3_3.set (x22_1 : Int).toNat (rd x3_3 (rd ((rd_T49 l0 x22_1).f2) x7_3))) (x4_3.set (x22_1 : Int).toNat (ji45)) x22_1 (wrap64 (x7_3 - 1)) l0 (l0.length : Int) x22_1 ((rd_T49 l0 x22_1).f0) ((rd_T49 l0 x22_1).f1) ((rd_T49 l0 x22_1).f2) ((rd_T49 l0 x22_1).f3)) = some r := by first | (rw [hji45] at H; exact H) | (simp only [hji45] at H ⊢; exact H)
    have hji45_ : (if (rd x4_3 x22_1) < (wrap64 ((rd x4_3 (rd ((rd_T49 l0 x22_1).f2) x7_3)) + 1)) then (wrap64 ((rd x4_3 (rd ((rd_T49 l0 x22_1).f2) x7_3)) + 1)) else (rd x4_3 x22_1)) = ji45 := hji45
    obtain ⟨y256, hy256⟩ : ∃ y_ : List Int, y_ = (x3_3.set (x22_1 : Int).toNat (rd x3_3 (rd ((rd_T49 l0 x22_1).f2) x7_3))) := ⟨_, rfl⟩
    replace H : (impl_ParticleOk.l1 k3 l0 y256 (x4_3.set (x22_1 : Int).toNat (ji45)) x22_1 (wrap64 (x7_3 - 1)) l0 (l0.length : Int) x22_1 ((rd_T49 l0 x22_1).f0) ((rd_T49 l0 x22_1).f1) ((rd_T49 l0 x22_1).f2) ((rd_T49 l0 x22_1).f3)) = some r := by first | (rw [hy256]; with_reducible exact H) | (have H2_ := (Option.bind_some _ _).symm.trans H; rw [hy256]; with_reducible exact H2_) | (have H2_ := (Option.bind_some _ _).symm.trans H; with_reducible exact H2_) | with_reducible exact H | (rw [hy256]; exact H) | exact H
    have Ny256 := Aside0.mk hy256
    clear hy256
    obtain ⟨y257, hy257⟩ : ∃ y_ : List Int, y_ = (x4_3.set (x22_1 : Int).toNat (ji45)) := ⟨_, rfl⟩
    replace H : (impl_ParticleOk.l1 k3 l0 y256 y257 x22_1 (wrap64 (x7_3 - 1)) l0 (l0.length : Int) x22_1 ((rd_T49 l0 x22_1).f0) ((rd_T49 l0 x22_1).f1) ((rd_T49 l0 x22_1).f2) ((rd_T49 l0 x22_1).f3)) = some r := by first | (rw [hy257]; with_reducible exact H) | (have H2_ := (Option.bind_some _ _).symm.trans H; rw [hy257]; with_reducible exact H2_) | (have H2_ := (Option.bind_some _ _).symm.trans H; with_reducible exact H2_) | with_reducible exact H | (rw [hy257]; exact H) | exact H
    have Ny257 := Aside0.mk hy257
    clear hy257
    have H' := Aside0.mk H
    clear H
    obtain ⟨⟨hcz48_0, hcz48_1, hcz48_2, hcz48_3⟩, hfz48_0, hfz48_1, hfz48_2, hfz48_3⟩ := blkC4 BK247.out
    have p251 : 0 ≤ (x7_3 : Int) := of_decide_eq_true dq22
    have q251 : x7_3 < (((rd_T49 l0 x22_1).f2).length : Int) := of_decide_eq_true dq22
    obtain ⟨ad251, e251, hx251_0⟩ := Kd.at_int HR246_2.out x7_3 p251 q251
    cases e251
    replace hx251_0 := (HB.out.cell (World.block_lt_of_cell? w _ hx251_0)).trans hx251_0
    replace p251 := eq_true p251
    replace q251 := eq_true q251
    have p252 : 0 ≤ (x22_1 : Int) := of_decide_eq_true dq22
    have q252 : x22_1 < (x3_3.length : Int) := of_decide_eq_true dq22
    obtain ⟨ad252, e252, hx252_0⟩ := Kd.at_int (Kd.R_reads' HO_3.out).2.2 x22_1 p252 q252
    obtain rfl : (⟨go29, 0, none⟩ : Addr) = ad252 := (by injection e252)
    (first | simp only [add_plain] at hx252_0 | simp only [add_at] at hx252_0 | simp only [Addr.add, Nat.zero_add] at hx252_0 | skip)
    replace p252 := eq_true p252
    replace q252 := eq_true q252
    try go_wp2
    have n0_ := Aside0.mk (Kd.R_drew HO_3.out)
    have n1_ := Aside0.mk (Kd.R_drew HO_4.out)
    have n2_ := Aside0.mk (blk_drew BK247.out)
    have n3_ := Aside0.mk (below_drew1 HB.out)
    clear HO_3
    clear HO_4
    clear BK247
    clear HB
    have HO_3 := n0_
    have HO_4 := n1_
    have BK247 := n2_
    have HB := n3_
    clear n0_ n1_ n2_ n3_
    have p253 : 0 ≤ ((rd ((rd_T49 l0 x22_1).f2) x7_3) : Int) := of_decide_eq_true dq22
    have q253 : (rd ((rd_T49 l0 x22_1).f2) x7_3) < (x3_3.length : Int) := of_decide_eq_true dq22
    obtain ⟨ad253, e253, hx253_0⟩ := Kd.at_int (Kd.R_reads' HO_3.out).2.2 (rd ((rd_T49 l0 x22_1).f2) x7_3) p253 q253
    obtain rfl : (⟨go29, 0, none⟩ : Addr) = ad253 := (by injection e253)
    (first | simp only [add_plain] at hx253_0 | simp only [add_at] at hx253_0 | simp only [Addr.add, Nat.zero_add] at hx253_0 | skip)
    replace p253 := eq_true p253
    replace q253 := eq_true q253
    obtain ⟨Ao50, co50, eo50⟩ := Kd.R_slice HO_4.out
    (first | subst eo50 | (injection eo50 with f1_ f2_ f3_; have f4_ := f1_.symm; have f5_ := f3_.symm; clear f1_ f2_ f3_; subst f4_; subst f5_))
    have p254 : 0 ≤ (x22_1 : Int) := of_decide_eq_true dq22
    have q254 : x22_1 < (x4_3.length : Int) := of_decide_eq_true dq22
    obtain ⟨ad254, e254, hx254_0⟩ := Kd.at_int (Kd.R_reads' HO_4.out).2.2 x22_1 p254 q254
    cases e254
    replace p254 := eq_true p254
    replace q254 := eq_true q254
    have p255 : 0 ≤ ((rd ((rd_T49 l0 x22_1).f2) x7_3) : Int) := of_decide_eq_true dq22
    have q255 : (rd ((rd_T49 l0 x22_1).f2) x7_3) < (x4_3.length : Int) := of_decide_eq_true dq22
    obtain ⟨ad255, e255, hx255_0⟩ := Kd.at_int (Kd.R_reads' HO_4.out).2.2 (rd ((rd_T49 l0 x22_1).f2) x7_3) p255 q255
    obtain rfl : ad254 = ad255 := (by injection e255)
    replace p255 := eq_true p255
    replace q255 := eq_true q255
    have p46 : 0 ≤ (x22_1 : Int) := of_decide_eq_true dq22
    have q46 : (x22_1 : Int) < ((x3_3.length : Int) : Int) := of_decide_eq_true dq22
    obtain ⟨hx46_0, hf46_0⟩ := Kd.R_celln 0 HO_3.out (x22_1 : Int) p46 q46
    replace p46 := eq_true p46
    replace q46 := eq_true q46
    have HP51 := Kd.R_putn HO_3.out (x22_1 : Int) (rd x3_3 (rd ((rd_T49 l0 x22_1).f2) x7_3))
    rw [← Ny256.out] at HP51
    have HQ51 := Aside0.mk HP51
    clear HP51
    have p47 : 0 ≤ (x22_1 : Int) := of_decide_eq_true dq22
    have q47 : (x22_1 : Int) < ((x4_3.length : Int) : Int) := of_decide_eq_true dq22
    obtain ⟨go47, co47, eo47, gb47, gl47, cl47, HG47⟩ := Kd.R_form HO_4.out dq25
    (first | cases eo47 | (injection eo47 with ea_ en_ ec_; (first | subst ea_ | (injection ea_ with ea_; subst ea_)); subst ec_; clear en_))
    have GB47 := Aside0.mk gb47
    have GG47 := Aside0.mk HG47
    clear gb47 gl47 HG47
    (first | simp only [add_plain] at hx254_0 | skip)
    (first | simp only [add_plain] at hx255_0 | skip)
    obtain ⟨hx47_0, hf47_0⟩ := Kd.R_celln 0 (Kd.R_far (p := ⟨go29, (x22_1 : Int).toNat, none⟩) (Kd.R_mono HO_4.out (fun k_ hk => (⟨hk, fun e_ => hk (by rw [e_]; rfl)⟩ : _ ∧ k_ ≠ go29))) (fun _ hk => hk.2) (.int .i64 (rd x3_3 (rd ((rd_T49 l0 x22_1).f2) x7_3)))) (x22_1 : Int) p47 q47
    replace p47 := eq_true p47
    replace q47 := eq_true q47
    have HP52 := Kd.R_putn (Kd.R_far (p := ⟨go29, (x22_1 : Int).toNat, none⟩) (Kd.R_mono HO_4.out (fun k_ hk => (⟨hk, fun e_ => hk (by rw [e_]; rfl)⟩ : _ ∧ k_ ≠ go29))) (fun _ hk => hk.2) (.int .i64 (rd x3_3 (rd ((rd_T49 l0 x22_1).f2) x7_3)))) (x22_1 : Int) ji45
    rw [← Ny257.out] at HP52
    have HQ52 := Aside0.mk HP52
    clear HP52
    refine start_ (n := 22) (S := fun w' => w'.cell? ⟨go29, ((rd ((rd_T49 l0 x22_1).f2) x7_3)).toNat, none⟩ = some (.int .i64 (rd x3_3 (rd ((rd_T49 l0 x22_1).f2) x7_3))) ∧ w'.cell? ⟨go47, (x22_1).toNat, none⟩ = some (.int .i64 (rd x4_3 x22_1)) ∧ w'.cell? ⟨go47, ((rd ((rd_T49 l0 x22_1).f2) x7_3)).toNat, none⟩ = some (.int .i64 (rd x4_3 (rd ((rd_T49 l0 x22_1).f2) x7_3)))) (ds := [19, 21]) (bitsA 22 0) dq21 rfl rfl ⟨hx253_0, hx254_0, hx255_0⟩ (fun hHeld => ?_); refine with_tabW impl_ParticleOk.tab16 impl_ParticleOk.bits16 (fun HT_ HW_ => ?_)
    generalize wr.drew = w49 at HO_3 HO_4 BK247 HB GG47 HQ51 HQ52 hf46_0 hf47_0 hx253_0 hx254_0 hx255_0 hx46_0 hx47_0 hHeld ⊢
    refine pureA (i := 0) (N := some 64) (bitsA 22 1) ?_
    refine pureA (i := 1) (N := some 65) (bitsA 22 3) ?_
    refine pureA (i := 2) (N := some 66) (bitsA 22 7) ?_
    refine pureA (i := 3) (N := some 67) (bitsA 22 15) ?_
    refine pureA (i := 4) (N := some 68) (bitsA 22 31) ?_
    refine pureA (i := 5) (N := some 69) (bitsA 22 63) ?_
    refine pureA (i := 6) (N := some 70) (bitsA 22 127) ?_
    refine pureA (i := 8) (N := some 72) (bitsA 22 383) ?_
    refine pureA (i := 9) (N := some 73) (bitsA 22 895) ?_
    refine pureA (i := 10) (N := some 74) (bitsA 22 1919) ?_
    refine pureA (i := 12) (N := some 76) (bitsA 22 6015) ?_
    refine pureA (i := 13) (N := some 77) (bitsA 22 14207) ?_
    refine pureA (i := 14) (N := some 78) (bitsA 22 30591) ?_
    refine takeA3 (i := 7) (N := some 71) (bitsA 22 30719) ?_
    refine takeA3 (i := 11) (N := some 75) (bitsA 22 32767) ?_
    refine takeA3 (i := 15) (N := some 79) (bitsA 22 65535) ?_
    refine pureA (i := 16) (N := some 80) (bitsA 22 131071) ?_
    refine pureA (i := 17) (N := some 81) (bitsA 22 262143) ?_
    refine pureA (i := 18) (N := some 82) (bitsA 22 524287) ?_
    refine last_ (i := 19) (N := none) (bitsA 22 1048575) rfl rfl (one_of HT_.out dq21) dq26 (fun K hK => ?_)
    refine skip_ (w1 := ?_) (by rfl) rfl ?_ ?_
    rotate_left
    ·go_simp
     rfl
    refine hK.out _ _ ?_
    clear hK K
    refine pureA (i := 20) (N := some 83) (bitsA 22 2097151) ?_
    refine last_ (i := 21) (N := none) (bitsA 22 4194303) rfl rfl (one_of HT_.out dq21) dq26 (fun K hK => ?_)
    refine skip_ (w1 := ?_) (by rfl) rfl ?_ ?_
    rotate_left
    ·go_simp
     rfl
    refine hK.out _ _ ?_
    clear hK K
    refine done_ (done_of HT_.out dq21) ?_
    try go_wp2
    (try simp only [← hl3_3])
    go_roundg k3
    case measure => have := HK1.out; have := HJ14.out; have := HK3.out; omega
    case rel => exact ⟨(y256), (y257), (wrap64 (x7_3 - 1)), dq15, H', ⟨by have := HK1.out; have := HJ14.out; have := HK3.out; omega⟩, ⟨by (try simp only [hl3_3]); (with_reducible repeat (first | apply Kd.R_alloc | apply Kd.R_drewN | apply Kd.R_drew)); exact Kd.R_mono (Kd.R_far (p := ⟨go47, (x22_1 : Int).toNat, none⟩) (Kd.R_mono HQ51.out (fun k_ hk => (⟨hk, fun e_ => hk (by rw [e_]; rfl)⟩ : _ ∧ k_ ≠ go47))) (fun _ hk => hk.2) (.int .i64 ji45)) (fun _ hk => hk.1)⟩, ⟨by (try simp only [hl3_3]); (with_reducible repeat (first | apply Kd.R_alloc | apply Kd.R_drewN | apply Kd.R_drew)); exact Kd.R_mono HQ52.out (fun _ hk => hk.1)⟩, ⟨by (try simp only [hl3_3]); refine blk_up ?_; refine blk_far ?_ (by have h_ := Kd.R_ne HO_4.out BK247.out dq26; intro e_; exact h_ (by rw [e_]; rfl)) _; refine blk_up ?_; refine blk_far ?_ (by have h_ := Kd.R_ne HO_3.out BK247.out dq26; intro e_; exact h_ (by rw [e_]; rfl)) _; refine blk_up ?_; exact BK247.out⟩, ⟨by repeat (first | (with_reducible first | exact HB.out | apply below_alloc | apply pw_below_drewN | apply below_drew1 | refine below_set ?_ GB29.out | refine below_set ?_ GB47.out | refine below_set ?_ GE247.out) | exact HB.out)⟩⟩

/-! ### impl_PNode_isOften: function 66 -/
def impl_PNode_isOften.f (a0_0 : Int) (a0_1 : ByteArray) (l0_2 : List Int) (a0_3 : Int) : Option (Bool) := if a0_3 = 2 then (some true) else (some (a0_3 == 3))
set_option maxHeartbeats 8000000 in
set_option maxRecDepth 100000 in
theorem impl_PNode_isOften.calls (a0_0 : Int) (a0_1 : ByteArray) (A0_2 : Option Addr) (c0_2 : Nat) (l0_2 : List Int) (a0_3 : Int) (r : Bool) (w : World) (hr0_2 : Kd.C (Kd.int .i64) w A0_2 l0_2.length l0_2) (hc0_2 : l0_2.length ≤ c0_2) (h : impl_PNode_isOften.f a0_0 a0_1 l0_2 a0_3 = some r) :
  Calls Try.prog 66 #[.agg #[.int .i64 a0_0, .string a0_1, .slice A0_2 l0_2.length c0_2, .int .i64 a0_3]] w fun e w' => e = .returned (.bool r) ∧ Below w.heap.size w w' := by
 have hu49 := Try.underlying49
 have HR0_2 := Aside0.mk hr0_2
 have HC0_2 := Aside0.mk hc0_2
 clear hr0_2 hc0_2
 have HB := Aside0.mk (Below.refl w.heap.size w)
 have H : (if a0_3 = 2 then (some true) else (some (a0_3 == 3))) = some r := h
 clear h
 by_cases c2 : a0_3 = 2
 rotate_left
 ·rw [if_neg c2] at H
  have c2b0 := beq_eq_false_iff_ne.mpr c2
  have c2b1 := bne_iff_ne.mpr c2
  obtain rfl := Option.some.inj H
  go_enter Try.func66, Try.ntmps66
  go_wp2_with (first | ((with_reducible refine gate_dst (N := 1) rfl ?_); refine box_event ?hg (N := 1) ?hd (cs := #[.int .i64 a0_0, .string a0_1, .slice A0_2 l0_2.length c0_2, .int .i64 a0_3]) (t := 49) ?hr ?_; (case hd => rfl); (case hg => rfl); (case hr => exact dq0); intro gb437 hg w5 hbox hb; have n0_ := Aside0.mk (below_step dq17 hb); have n1_ := Aside0.mk (hbox); have n2_ := Aside0.mk ((dq16 : w.heap.size ≤ gb437)); have n3_ := Aside0.mk ((dq16 : w.heap.size ≤ gb437)); clear HB; have HB := n0_; have BK437 := n1_; have GW437 := n2_; have GE437 := n3_; clear n0_ n1_ n2_ n3_; clear hb hbox hg; obtain ⟨⟨hcz6_0, hcz6_1, hcz6_2, hcz6_3⟩, hfz6_0, hfz6_1, hfz6_2, hfz6_3⟩ := blkC4 BK437.out))
  go_ret
  exact ⟨dq19, dq112⟩
 rw [if_pos c2] at H
 have c2b0 := beq_iff_eq.mpr c2
 have c2b1 := bne_eq_false_iff_eq.mpr c2
 clear c2
 obtain rfl := Option.some.inj H
 go_enter Try.func66, Try.ntmps66
 go_wp2_with (first | ((with_reducible refine gate_dst (N := 1) rfl ?_); refine box_event ?hg (N := 1) ?hd (cs := #[.int .i64 a0_0, .string a0_1, .slice A0_2 l0_2.length c0_2, .int .i64 a0_3]) (t := 49) ?hr ?_; (case hd => rfl); (case hg => rfl); (case hr => exact dq0); intro gb437 hg w3 hbox hb; have n0_ := Aside0.mk (below_step dq17 hb); have n1_ := Aside0.mk (hbox); have n2_ := Aside0.mk ((dq16 : w.heap.size ≤ gb437)); have n3_ := Aside0.mk ((dq16 : w.heap.size ≤ gb437)); clear HB; have HB := n0_; have BK437 := n1_; have GW437 := n2_; have GE437 := n3_; clear n0_ n1_ n2_ n3_; clear hb hbox hg; obtain ⟨⟨hcz4_0, hcz4_1, hcz4_2, hcz4_3⟩, hfz4_0, hfz4_1, hfz4_2, hfz4_3⟩ := blkC4 BK437.out))
 go_ret
 exact ⟨dq19, dq112⟩

/-! ### impl_PNode_isOptional: function 67 -/
def impl_PNode_isOptional.f (a0_0 : Int) (a0_1 : ByteArray) (l0_2 : List Int) (a0_3 : Int) : Option (Bool) := if a0_3 = 1 then (some true) else (some (a0_3 == 2))
set_option maxHeartbeats 8000000 in
set_option maxRecDepth 100000 in
theorem impl_PNode_isOptional.calls (a0_0 : Int) (a0_1 : ByteArray) (A0_2 : Option Addr) (c0_2 : Nat) (l0_2 : List Int) (a0_3 : Int) (r : Bool) (w : World) (hr0_2 : Kd.C (Kd.int .i64) w A0_2 l0_2.length l0_2) (hc0_2 : l0_2.length ≤ c0_2) (h : impl_PNode_isOptional.f a0_0 a0_1 l0_2 a0_3 = some r) :
  Calls Try.prog 67 #[.agg #[.int .i64 a0_0, .string a0_1, .slice A0_2 l0_2.length c0_2, .int .i64 a0_3]] w fun e w' => e = .returned (.bool r) ∧ Below w.heap.size w w' := by
 have hu49 := Try.underlying49
 have HR0_2 := Aside0.mk hr0_2
 have HC0_2 := Aside0.mk hc0_2
 clear hr0_2 hc0_2
 have HB := Aside0.mk (Below.refl w.heap.size w)
 have H : (if a0_3 = 1 then (some true) else (some (a0_3 == 2))) = some r := h
 clear h
 by_cases c2 : a0_3 = 1
 rotate_left
 ·rw [if_neg c2] at H
  have c2b0 := beq_eq_false_iff_ne.mpr c2
  have c2b1 := bne_iff_ne.mpr c2
  obtain rfl := Option.some.inj H
  go_enter Try.func67, Try.ntmps67
  go_wp2_with (first | ((with_reducible refine gate_dst (N := 1) rfl ?_); refine box_event ?hg (N := 1) ?hd (cs := #[.int .i64 a0_0, .string a0_1, .slice A0_2 l0_2.length c0_2, .int .i64 a0_3]) (t := 49) ?hr ?_; (case hd => rfl); (case hg => rfl); (case hr => exact dq0); intro gb438 hg w5 hbox hb; have n0_ := Aside0.mk (below_step dq17 hb); have n1_ := Aside0.mk (hbox); have n2_ := Aside0.mk ((dq16 : w.heap.size ≤ gb438)); have n3_ := Aside0.mk ((dq16 : w.heap.size ≤ gb438)); clear HB; have HB := n0_; have BK438 := n1_; have GW438 := n2_; have GE438 := n3_; clear n0_ n1_ n2_ n3_; clear hb hbox hg; obtain ⟨⟨hcz6_0, hcz6_1, hcz6_2, hcz6_3⟩, hfz6_0, hfz6_1, hfz6_2, hfz6_3⟩ := blkC4 BK438.out))
  go_ret
  exact ⟨dq19, dq113⟩
 rw [if_pos c2] at H
 have c2b0 := beq_iff_eq.mpr c2
 have c2b1 := bne_eq_false_iff_eq.mpr c2
 clear c2
 obtain rfl := Option.some.inj H
 go_enter Try.func67, Try.ntmps67
 go_wp2_with (first | ((with_reducible refine gate_dst (N := 1) rfl ?_); refine box_event ?hg (N := 1) ?hd (cs := #[.int .i64 a0_0, .string a0_1, .slice A0_2 l0_2.length c0_2, .int .i64 a0_3]) (t := 49) ?hr ?_; (case hd => rfl); (case hg => rfl); (case hr => exact dq0); intro gb438 hg w3 hbox hb; have n0_ := Aside0.mk (below_step dq17 hb); have n1_ := Aside0.mk (hbox); have n2_ := Aside0.mk ((dq16 : w.heap.size ≤ gb438)); have n3_ := Aside0.mk ((dq16 : w.heap.size ≤ gb438)); clear HB; have HB := n0_; have BK438 := n1_; have GW438 := n2_; have GE438 := n3_; clear n0_ n1_ n2_ n3_; clear hb hbox hg; obtain ⟨⟨hcz4_0, hcz4_1, hcz4_2, hcz4_3⟩, hfz4_0, hfz4_1, hfz4_2, hfz4_3⟩ := blkC4 BK438.out))
 go_ret
 exact ⟨dq19, dq113⟩

end Go.Proofs.Ytejkkdjfiebmfaa.L

namespace Go.Proofs.Ytejkkdjfiebmfaa.L
open Go.RowKit Go.Proofs.YtejkkdjfiebmfaaW.PrintWords Go.Proofs.YtejkkdjfiebmfaaW.PrintLast Go.Proofs.YtejkkdjfiebmfaaW.PrintMore
open Go.Maps (Keyed)
set_option linter.unusedVariables false
set_option linter.unusedSimpArgs false

theorem len_split (n : Nat) : ∀ l : List Nat, l.length = (l.filter (fun x => x != n)).length + l.count n
 | [] => rfl
 | x :: l => by
  have ih := len_split n l
  by_cases h : x = n
  ·subst h
   rw [List.filter_cons_of_neg (by simp), List.count_cons_self, List.length_cons, ih]
   omega
  ·rw [List.filter_cons_of_pos (by simpa using h), List.count_cons_of_ne h, List.length_cons, List.length_cons, ih]
   omega
theorem pigeon : ∀ (n : Nat) (l : List Nat), l.Nodup → (∀ x ∈ l, x < n) → l.length ≤ n
 | 0, l, _, h => by
  cases l with
  | nil => simp
  | cons x l => exact absurd (h x (by simp)) (by omega)
 | n + 1, l, hn, h => by
  have h1 := pigeon n (l.filter (fun x => x != n)) (hn.filter _) (fun x hx => by
   obtain ⟨hx, hne⟩ := List.mem_filter.1 hx
   have := h x hx
   have hne' : x ≠ n := by simpa using hne
   omega)
  have h2 := len_split n l
  have h3 := List.nodup_iff_count.1 hn n
  omega
theorem mapKeyed : Keyed Try.prog 2 := Maps.int_keyed Try.underlying2
def MapSet (w : World) (b : Nat) (l : List Int) : Prop :=
 ∃ D : DataW Unit, w.ownsMap Try.prog 2 (plainElem Try.prog 4) b 4096 D ∧ (∀ x : Int, Maps.has D (.int .i64 x) = true ↔ x ∈ l) ∧ ∀ x ∈ l, 0 ≤ x ∧ x < 4096
theorem wf_small {x : Int} (h0 : 0 ≤ x) (h1 : x < 4096) : (Lit.int .i64 x).wf = true := WalkArith.wf_i64 (by omega)
theorem owns_small {w : World} {b n : Nat} {D : DataW Unit} (h : w.ownsMap Try.prog 2 (plainElem Try.prog 4) b n D) (hk : ∀ x : Int, Maps.has D (.int .i64 x) = true → 0 ≤ x ∧ x < 4096) : w.ownsMap Try.prog 2 (plainElem Try.prog 4) b 4096 D := by
 have ht := h.tidy mapKeyed
 obtain ⟨es, clock, hb, F, _, hD⟩ := h
 refine ⟨es, clock, hb, F, ?_, hD⟩
 have e1 : es.size = ((es.toList.map (WideElems.rg Try.prog 2 (plainElem (H := Unit) Try.prog 4))).foldr DataW.insert []).length := by rw [length_sorted]; simp
 obtain ⟨ds, hd, hp⟩ := ht
 rw [hD] at hd
 injection hd with hd
 rw [e1, hd]
 have hkeys : ∀ p ∈ ds, ∃ x : Int, p.1 = .int .i64 x ∧ 0 ≤ x ∧ x < 4096 := by
  intro p hp'
  rw [← hd] at hp'
  obtain ⟨v, hv⟩ := Maps.fit_keys F p (mem_sorted.1 hp')
  obtain ⟨x, _, e, _⟩ := Maps.keyOf_int_inv Try.underlying2 hv
  refine ⟨x, e, hk x ?_⟩
  rw [hD, Maps.has_eq]
  refine List.any_eq_true.2 ⟨p, hp', ?_⟩
  rw [e]
  exact WideAt.sameKey_self (by rw [← e]; exact mapKeyed.key hv)
 have hl : (ds.map (fun p => match p.1 with | .int _ x => x.toNat | _ => 0)).length ≤ 4096 := by
  refine pigeon 4096 _ ?_ ?_
  ·refine List.pairwise_map.2 (List.Pairwise.imp_of_mem (fun {p q} hp1 hq1 hne he => hne ?_) hp)
   obtain ⟨x, ex, x0, x1⟩ := hkeys p hp1
   obtain ⟨y, ey, y0, y1⟩ := hkeys q hq1
   rw [ex, ey] at he
   have he' : x.toNat = y.toNat := he
   have : x = y := by omega
   rw [ex, ey, this]
  ·intro z hz
   obtain ⟨p, hp1, rfl⟩ := List.mem_map.1 hz
   obtain ⟨x, ex, x0, x1⟩ := hkeys p hp1
   rw [ex]
   show x.toNat < 4096
   omega
 rw [List.length_map] at hl
 exact hl
theorem MapSet.made (w : World) : MapSet (w.alloc (.map #[] 0)) w.heap.size [] :=
 ⟨.map [], (World.ownsMap_made w _ _ _).mono (by omega), fun x => by simp [Maps.has_eq], by simp⟩
theorem MapSet.lt {w : World} {b : Nat} {l : List Int} (h : MapSet w b l) : b < w.heap.size := by
 obtain ⟨D, h, _⟩ := h
 exact h.lt
theorem MapSet.block {w : World} {b : Nat} {l : List Int} (h : MapSet w b l) : ∃ es clock, w.heap[b]? = some (.map es clock) := by
 obtain ⟨D, ⟨es, clock, h, _⟩, _⟩ := h
 exact ⟨es, clock, h⟩
theorem MapSet.step {w w1 : World} {b : Nat} {l : List Int} (h : MapSet w b l) (hb : w1.heap[b]? = w.heap[b]?) : MapSet w1 b l := by
 obtain ⟨D, ⟨es, clock, h1, h2⟩, h3⟩ := h
 exact ⟨D, ⟨es, clock, hb.trans h1, h2⟩, h3⟩
theorem MapSet.congr {w : World} {b : Nat} {l l' : List Int} (h : MapSet w b l) (hl : ∀ x, x ∈ l' ↔ x ∈ l) : MapSet w b l' := by
 obtain ⟨D, h1, h2, h3⟩ := h
 exact ⟨D, h1, fun x => (h2 x).trans (hl x).symm, fun x hx => h3 x ((hl x).1 hx)⟩
section
variable {w : World} {ops : Array Oper} {rest : List Oper} {o : Oper} {a : Act} {Q : Exit → Act → World → Prop}
theorem set_add (hg : o.guard = none) (m x v : Operand) (hop : o.op = Op.mapUpdate 73 m x v) (b : Nat) (l : List Int) (n : Int)
  (hm : a.eval m = .map (some b)) (h : MapSet w b l) (hx : a.eval x = .int .i64 n) (hv : a.eval v = .bool true) (h0 : 0 ≤ n) (h1 : n < 4096)
  (hK : ∀ w', MapSet w' b (l ++ [n]) → w.mapTurned w' b → wpList Try.prog ops Q rest (a.put o.dst undef) w') :
  wpList Try.prog ops Q (o :: rest) a w := by
 obtain ⟨D, hown, hh, hr⟩ := h
 refine wpList_mapUpdate_in w hg m x v 73 hop 2 4 mapKeyed Try.underlying73 (plainElem Try.prog 4) b 4096 D hm hown (by unfold maxLen; omega) _ _ (.int .i64 n) hx hv (Maps.keyOf_int_mk Try.underlying2 (wf_small h0 h1)) _ _ (plainElem_bool Try.underlying4 true) ?_
 intro w' hown' hturn
 have hk : WideAt.IsKeyLit (.int .i64 n) := mapKeyed.key (Maps.keyOf_int_mk Try.underlying2 (wf_small h0 h1))
 have hh' : ∀ z : Int, Maps.has (D.put (.int .i64 n) (.lit (.bool true))) (.int .i64 z) = true ↔ z ∈ l ++ [n] := by
  intro z
  by_cases e : z = n
  ·subst e
   rw [Maps.has_put_same hown.isMap hk]
   simp
  ·rw [Maps.has_put_other (fun h => e (by injection h)), hh z]
   simp [e]
 have hr' : ∀ z ∈ l ++ [n], 0 ≤ z ∧ z < 4096 := by
  intro z hz
  rcases List.mem_append.1 hz with hz | hz
  ·exact hr z hz
  ·rw [List.mem_singleton.1 hz]; exact ⟨h0, h1⟩
 exact hK w' ⟨_, owns_small hown' (fun z hz => hr' z ((hh' z).1 hz)), hh', hr'⟩ hturn
def Going (w : World) (b r : Nat) (l done : List Int) : Prop :=
 ∃ (D : DataW Unit) (left : Lit → Bool) (cnt : Nat), w.ranges Try.prog 2 (plainElem Try.prog 4) b r 4096 D left cnt ∧ (∀ x : Int, Maps.has D (.int .i64 x) = true ↔ x ∈ l) ∧ (∀ x ∈ l, 0 ≤ x ∧ x < 4096) ∧ (∀ x : Int, left (.int .i64 x) = true ↔ x ∈ l ∧ x ∉ done) ∧ done.Nodup ∧ ∀ x ∈ done, x ∈ l
theorem Going.set_ {w : World} {b r : Nat} {l done : List Int} (h : Going w b r l done) : MapSet w b l := by
 obtain ⟨D, left, cnt, h1, h2, h3, _⟩ := h
 exact ⟨D, h1.owns, h2, h3⟩
theorem Going.blocks {w : World} {b r : Nat} {l done : List Int} (h : Going w b r l done) : (∃ es clock, w.heap[b]? = some (.map es clock)) ∧ ∃ m s q c, w.heap[r]? = some (.mapIter m s q c) := by
 obtain ⟨D, left, cnt, ⟨es, clock, since, seen, c0, hb, _, _, _, hr, _⟩, _⟩ := h
 exact ⟨⟨es, clock, hb⟩, ⟨_, _, _, _, hr⟩⟩
theorem set_range (hg : o.guard = none) (m : Operand) (hop : o.op = Op.range 73 m) (b : Nat) (l : List Int) (hm : a.eval m = .map (some b)) (h : MapSet w b l)
  (hK : ∀ w', Going w' b w.heap.size l [] → w.grownBy w' none → w'.heap.size = w.heap.size + 1 → wpList Try.prog ops Q rest (a.put o.dst (.pointer (some ⟨w.heap.size, 0, none⟩))) w') :
  wpList Try.prog ops Q (o :: rest) a w := by
 obtain ⟨D, hown, hh, hr⟩ := h
 refine wpList_range_own w hg m 73 hop 2 4 mapKeyed Try.underlying73 (plainElem Try.prog 4) b 4096 D hm hown ?_
 intro w' h1 h2 h3
 exact hK w' ⟨D, _, _, h1, hh, hr, fun x => by rw [hh x]; simp, .nil, by simp⟩ h2 h3
theorem plain_bool {P : Program} {e : TypeId} (he : P.underlying e = some .bool) {v : Value} {y : DataW Unit × List MemPlace} (h : plainElem P e v = some y) : ∃ c : Bool, v = .bool c := by
 unfold plainElem at h
 rw [he] at h
 cases v <;> simp at h
 exact ⟨_, rfl⟩
theorem bool_inv {v : Value} {y : DataW Unit × List MemPlace} (h : plainElem Try.prog 4 v = some y) : ∃ c : Bool, v = .bool c := plain_bool Try.underlying4 h
theorem set_next (hg : o.guard = none) (it : Operand) (hop : o.op = Op.next it false) (b r : Nat) (l done : List Int) (hit : a.eval it = .pointer (some ⟨r, 0, none⟩)) (h : Going w b r l done)
  (hDone : (∀ x, x ∈ done ↔ x ∈ l) → done.Nodup → wpList Try.prog ops Q rest (a.put o.dst (.tuple #[.bool false])) w)
  (hMore : ∀ (x : Int) (c : Value) (w' : World), x ∈ l → x ∉ done → 0 ≤ x → x < 4096 → Going w' b r l (done ++ [x]) → w'.rangeLeft b r < w.rangeLeft b r → w.grownBy w' (some r) → w'.heap.size = w.heap.size →
   (Instr.entry (.pointer (some ⟨r, 0, none⟩))).run Try.prog w' = .ok (.tuple #[.int .i64 x, c]) w' → wpList Try.prog ops Q rest (a.put o.dst (.tuple #[.bool true, .int .i64 x, c])) w') :
  wpList Try.prog ops Q (o :: rest) a w := by
 obtain ⟨D, left, cnt, h1, hh, hr, hl, hn, hs⟩ := h
 refine wpList_next_ranges w hg it hop 2 mapKeyed (plainElem Try.prog 4) (Value.int .i64) Value.bool (fun key kl hkey => by obtain ⟨x, rfl, _⟩ := Maps.keyOf_int_inv Try.underlying2 hkey; exact ⟨x, rfl⟩) (fun v y hv => bool_inv hv) b r 4096 D left cnt hit h1 ?_ ?_
 ·intro h0 hnone
  refine hDone (fun x => ⟨hs x, fun hx => ?_⟩) hn
  have h2 := hnone (.int .i64 x)
  cases hm : decide (x ∈ done) with
  | true => exact of_decide_eq_true hm
  | false =>
   have := (hl x).2 ⟨hx, of_decide_eq_false hm⟩
   rw [h2] at this
   cases this
 ·intro x c kl y w' cnt' hkey hlk hv hat hrg hlt hgr hsz hen
  obtain ⟨x', ex, rfl, hwx⟩ := Maps.keyOf_int_inv Try.underlying2 hkey
  cases ex
  obtain ⟨hxl, hxd⟩ := (hl x).1 hlk
  obtain ⟨x0, x1⟩ := hr x hxl
  refine hMore x (.bool c) w' hxl hxd x0 x1 ⟨D, _, cnt', hrg, hh, hr, fun z => ?_, ?_, ?_⟩ ?_ hgr hsz hen
  ·simp only [Bool.and_eq_true, Bool.not_eq_true', hl z, List.mem_append, List.mem_singleton, not_or]
   constructor
   ·rintro ⟨⟨h1, h2⟩, h3⟩
    refine ⟨h1, h2, fun e => ?_⟩
    subst e
    rw [WideAt.sameKey_self (mapKeyed.key hkey)] at h3
    cases h3
   ·rintro ⟨h1, h2, h3⟩
    exact ⟨⟨h1, h2⟩, Maps.sameKey_ne (fun e => h3 (by injection e))⟩
  ·refine List.nodup_append.2 ⟨hn, by simp, fun p hp q hq e => ?_⟩
   rw [List.mem_singleton.1 hq] at e
   exact hxd (e ▸ hp)
  ·intro z hz
   rcases List.mem_append.1 hz with hz | hz
   ·exact hs z hz
   ·rw [List.mem_singleton.1 hz]; exact hxl
  ·rw [hrg.left_eq, h1.left_eq]; exact hlt
end
end Go.Proofs.Ytejkkdjfiebmfaa.L

namespace Go.Proofs.Ytejkkdjfiebmfaa.L
open Go.RowKit Go.Proofs.YtejkkdjfiebmfaaW.PrintWords Go.Proofs.YtejkkdjfiebmfaaW.PrintLast Go.Proofs.YtejkkdjfiebmfaaW.PrintMore
set_option linter.unusedVariables false
set_option linter.unusedSimpArgs false

abbrev PN : Type := S49
def kmap : Kd Nat := Kd.scalar (fun b => Value.map (some b)) (fun _ => rfl)
abbrev krow : Kd (List Int) := Kd.slice 2 (Kd.int .i64)
structure NetV where
 nul : List Bool
 fst : List (List Int)
 lst : List (List Int)
 fol : List (List Int)
abbrev Tags : Type := Nat → Nat
structure MapsW (w : World) (base : Nat) (own : Tags) (ms : List Nat) (fol : List (List Int)) : Prop where
 len : ms.length = fol.length
 at_ : ∀ (i b : Nat) (l : List Int), ms[i]? = some b → fol[i]? = some l → MapSet w b l
 own_ : ∀ b ∈ ms, own b = 8
 lo : ∀ b ∈ ms, base ≤ b
 nodup : ms.Nodup
structure NetW (w : World) (base X : Nat) (own : Tags) (pv nv fv lv wv : Value) (N : NetV) (ms : List Nat) : Prop where
 x : w.heap[X]? = some (.cells #[pv, nv, fv, lv, wv] 60 (0, 0))
 xb : base ≤ X
 xo : own X = 7
 n : Kd.bool.R 4 w base (fun k => own k = 1) nv N.nul
 f : krow.R 24 w base (fun k => own k = 2) fv N.fst
 l : krow.R 24 w base (fun k => own k = 3) lv N.lst
 wv_ : kmap.R 73 w base (fun k => own k = 4) wv ms
 m : MapsW w base own ms N.fol
section
variable {w w1 : World} {base X : Nat} {own own' : Tags} {pv nv fv lv wv : Value} {N : NetV} {ms : List Nat}
theorem MapsW.lt {fol : List (List Int)} (h : MapsW w base own ms fol) : ∀ b ∈ ms, b < w.heap.size := by
 intro b hb
 obtain ⟨i, hi, rfl⟩ := List.getElem_of_mem hb
 exact (h.at_ i _ _ (List.getElem?_eq_getElem hi) (List.getElem?_eq_getElem (by have := h.len; omega))).lt
theorem MapsW.step {fol : List (List Int)} (h : MapsW w base own ms fol) (hm : ∀ k, k < w.heap.size → own k = 8 → w1.heap[k]? = w.heap[k]?) : MapsW w1 base own ms fol :=
 ⟨h.len, fun i b l hb hl => (h.at_ i b l hb hl).step (hm b (h.at_ i b l hb hl).lt (h.own_ b (List.mem_of_getElem? hb))), h.own_, h.lo, h.nodup⟩
theorem MapsW.tags {fol : List (List Int)} (h : MapsW w base own ms fol) (ho : ∀ k, k < w.heap.size → own k = 8 → own' k = 8) : MapsW w base own' ms fol :=
 ⟨h.len, h.at_, fun b hb => ho b (h.lt b hb) (h.own_ b hb), h.lo, h.nodup⟩
def Mine (t : Nat) : Prop := t = 1 ∨ t = 2 ∨ t = 3 ∨ t = 4 ∨ t = 7 ∨ t = 8
theorem row_step {α : Type} {d : Kd α} {e t : Nat} {v : Value} {xs : List α} (h : d.R e w base (fun k => own k = t) v xs) (hm : ∀ k, k < w.heap.size → own k = t → w1.heap[k]? = w.heap[k]?) : d.R e w1 base (fun k => own k = t) v xs :=
 Kd.R_step h (fun k hk hlt => hm k hlt hk)
theorem row_tags {α : Type} {d : Kd α} {e t t' : Nat} {v : Value} {xs : List α} (h : d.R e w base (fun k => own k = t) v xs) (ho : ∀ k, k < w.heap.size → own k = t → own' k = t') : d.R e w base (fun k => own' k = t') v xs :=
 Kd.R_mono (Kd.R_bound h) (fun k hk => ho k hk.2.2.1 hk.1)
theorem NetW.step (h : NetW w base X own pv nv fv lv wv N ms) (hm : ∀ k, k < w.heap.size → Mine (own k) → w1.heap[k]? = w.heap[k]?) : NetW w1 base X own pv nv fv lv wv N ms :=
 ⟨(hm X (blk_lt h.x) (by rw [h.xo]; unfold Mine; omega)).trans h.x, h.xb, h.xo, row_step h.n (fun k hlt hk => hm k hlt (by rw [hk]; unfold Mine; omega)), row_step h.f (fun k hlt hk => hm k hlt (by rw [hk]; unfold Mine; omega)),
  row_step h.l (fun k hlt hk => hm k hlt (by rw [hk]; unfold Mine; omega)), row_step h.wv_ (fun k hlt hk => hm k hlt (by rw [hk]; unfold Mine; omega)), h.m.step (fun k hlt hk => hm k hlt (by rw [hk]; unfold Mine; omega))⟩
theorem NetW.tags (h : NetW w base X own pv nv fv lv wv N ms) (ho : ∀ k, k < w.heap.size → Mine (own k) → own' k = own k) : NetW w base X own' pv nv fv lv wv N ms :=
 ⟨h.x, h.xb, (ho X (blk_lt h.x) (by rw [h.xo]; unfold Mine; omega)).trans h.xo, row_tags h.n (fun k hlt hk => (ho k hlt (by rw [hk]; unfold Mine; omega)).trans hk), row_tags h.f (fun k hlt hk => (ho k hlt (by rw [hk]; unfold Mine; omega)).trans hk),
  row_tags h.l (fun k hlt hk => (ho k hlt (by rw [hk]; unfold Mine; omega)).trans hk), row_tags h.wv_ (fun k hlt hk => (ho k hlt (by rw [hk]; unfold Mine; omega)).trans hk), h.m.tags (fun k hlt hk => (ho k hlt (by rw [hk]; unfold Mine; omega)).trans hk)⟩
theorem NetW.below (h : NetW w base X own pv nv fv lv wv N ms) (hb : Below w.heap.size w w1) : NetW w1 base X own pv nv fv lv wv N ms := h.step (fun k hk _ => hb.block k hk)
theorem NetW.map_at (h : NetW w base X own pv nv fv lv wv N ms) (i : Int) (h0 : 0 ≤ i) (h1 : i < N.fol.length) :
  ∃ g c b, wv = .slice (some ⟨g, 0, none⟩) N.fol.length c ∧ N.fol.length ≤ c ∧ w.cell? ⟨g, i.toNat, none⟩ = some (.map (some b)) ∧ MapSet w b (N.fol.getD i.toNat []) ∧ ms[i.toNat]? = some b := by
 have hl := h.m.len
 have hi : i.toNat < ms.length := by omega
 obtain ⟨g, c, e, _, _, _⟩ := Kd.R_form h.wv_ (by omega)
 subst e
 have hR := Kd.R_reads' h.wv_
 have hc := (Kd.R_cell (enc := fun b => Value.map (some b)) (h1 := fun _ => rfl) 0 h.wv_ i h0 (by omega)).1
 have hb : ms[i.toNat]? = some ms[i.toNat] := List.getElem?_eq_getElem hi
 refine ⟨g, c, ms[i.toNat], by rw [hl], by rw [← hl]; exact hR.2.1, ?_, ?_, hb⟩
 ·rw [hc]
  have : rdOf 0 ms i = ms[i.toNat] := by unfold rdOf; rw [List.getD_eq_getElem?_getD, hb]; rfl
  rw [this]
 ·refine h.m.at_ i.toNat _ _ hb ?_
  rw [List.getD_eq_getElem?_getD, List.getElem?_eq_getElem (by omega : i.toNat < N.fol.length)]
  rfl
theorem NetW.stored (h : NetW w base X own pv nv fv lv wv N ms) {i b : Nat} {l : List Int} (hb : ms[i]? = some b) (hn : MapSet w1 b l) (ht : w.mapTurned w1 b) : NetW w1 base X own pv nv fv lv wv { N with fol := N.fol.set i l } ms := by
 have hg := ht.grown
 have ho : own b = 8 := h.m.own_ b (List.mem_of_getElem? hb)
 have hk : ∀ k, k < w.heap.size → own k ≠ 8 → w1.heap[k]? = w.heap[k]? := fun k hlt hne => hg.block k hlt (fun e => hne (by injection e with e; rw [e]; exact ho))
 refine ⟨(hk X (blk_lt h.x) (by rw [h.xo]; decide)).trans h.x, h.xb, h.xo, row_step h.n (fun k hlt he => hk k hlt (by rw [he]; decide)), row_step h.f (fun k hlt he => hk k hlt (by rw [he]; decide)), row_step h.l (fun k hlt he => hk k hlt (by rw [he]; decide)), row_step h.wv_ (fun k hlt he => hk k hlt (by rw [he]; decide)), ?_⟩
 refine ⟨by rw [List.length_set]; exact h.m.len, fun j c q hc hq => ?_, h.m.own_, h.m.lo, h.m.nodup⟩
 by_cases e : i = j
 ·subst e
  rw [hb] at hc
  obtain rfl := Option.some.inj hc
  have hl : i < N.fol.length := by have := h.m.len; have := (List.getElem?_eq_some_iff.1 hb).1; omega
  rw [List.getElem?_set_self hl] at hq
  obtain rfl := Option.some.inj hq
  exact hn
 ·rw [List.getElem?_set_ne e] at hq
  have h1 := h.m.at_ j c q hc hq
  refine h1.step (hg.block c h1.lt (fun e2 => e ?_))
  injection e2 with e2
  subst e2
  exact (List.getElem?_inj (List.getElem?_eq_some_iff.1 hb).1 h.m.nodup).1 (hb.trans hc.symm)
end
theorem cell_turned {w w1 : World} {b : Nat} (h : w.mapTurned w1 b) {a : Addr} {v : Value} (hc : w.cell? a = some v) : w1.cell? a = some v := by
 obtain ⟨es, clock, es', clock', hb, rfl⟩ := h
 have hne : a.block ≠ b := by
  intro e
  subst e
  simp [World.cell?, hb] at hc
 have e : (ChangeMaps.setBlock w b (.map es' clock')).heap[a.block]? = w.heap[a.block]? := ChangeMaps.heap_setBlock_other hb _ hne
 simp only [World.cell?, e]
 exact hc
theorem ints_turned {w w1 : World} {b : Nat} (h : w.mapTurned w1 b) {A : Option Addr} {n : Nat} {xs : List Int} (hc : Kd.C (Kd.int .i64) w A n xs) : Kd.C (Kd.int .i64) w1 A n xs :=
 ⟨hc.1, hc.2.1, fun hn => by
  obtain ⟨ad, e, h1⟩ := hc.2.2 hn
  refine ⟨ad, e, fun j p hj => ?_⟩
  obtain ⟨c, h2, h3, h4⟩ := h1 j p hj
  exact ⟨c, h2, h3, fun i u hu => cell_turned h (h4 i u hu)⟩⟩
def leadTo (fol : List (List Int)) (a : Int) (to_ : List Int) : List (List Int) := fol.set a.toNat (fol.getD a.toNat [] ++ to_)
def leadL (fol : List (List Int)) (from_ to_ : List Int) : List (List Int) := from_.foldl (fun f a => leadTo f a to_) fol
theorem leadTo_length (fol : List (List Int)) (a : Int) (to_ : List Int) : (leadTo fol a to_).length = fol.length := List.length_set ..
theorem leadL_length (from_ to_ : List Int) : ∀ fol : List (List Int), (leadL fol from_ to_).length = fol.length := by
 induction from_ with
 | nil => intro fol; rfl
 | cons a l ih =>
  intro fol
  show (leadL (leadTo fol a to_) l to_).length = _
  rw [ih, leadTo_length]
theorem leadL_snoc (fol : List (List Int)) (l to_ : List Int) (a : Int) : leadL fol (l ++ [a]) to_ = leadTo (leadL fol l to_) a to_ := by
 unfold leadL; rw [List.foldl_append]; rfl
theorem take_snoc {l : List Int} {i : Nat} (h : i < l.length) : l.take (i + 1) = l.take i ++ [rd l (i : Int)] := by
 rw [List.take_succ_eq_append_getElem h]
 unfold rd
 rw [Int.toNat_natCast, List.getD_eq_getElem?_getD, List.getElem?_eq_getElem h]
 rfl
theorem leadTo_snoc (fol : List (List Int)) (a b : Int) (l : List Int) (h : a.toNat < fol.length) : leadTo fol a (l ++ [b]) = (leadTo fol a l).set a.toNat ((leadTo fol a l).getD a.toNat [] ++ [b]) := by
 unfold leadTo
 rw [List.getD_eq_getElem?_getD (l := List.set ..), List.getElem?_set_self h, List.set_set, Option.getD_some, List.append_assoc]
theorem leadTo_nil (fol : List (List Int)) (a : Int) (h : a.toNat < fol.length) : leadTo fol a [] = fol := by
 unfold leadTo
 rw [List.append_nil, List.getD_eq_getElem?_getD, List.getElem?_eq_getElem h]
 exact List.set_getElem_self h
theorem NetW.cellAt {w : World} {base X : Nat} {own : Tags} {pv nv fv lv wv : Value} {N : NetV} {ms : List Nat} (h : NetW w base X own pv nv fv lv wv N ms) :
  w.cell? ⟨X, 0, none⟩ = some pv ∧ w.cell? ⟨X, 1, none⟩ = some nv ∧ w.cell? ⟨X, 2, none⟩ = some fv ∧ w.cell? ⟨X, 3, none⟩ = some lv ∧ w.cell? ⟨X, 4, none⟩ = some wv ∧ ∀ i, w.frozen? ⟨X, i, none⟩ = false :=
 ⟨(blk_cell h.x 0).trans rfl, (blk_cell h.x 1).trans rfl, (blk_cell h.x 2).trans rfl, (blk_cell h.x 3).trans rfl, (blk_cell h.x 4).trans rfl, blk_frozen h.x⟩
set_option maxHeartbeats 4000000 in
set_option maxRecDepth 100000 in
theorem net_lead (w0 w : World) (X : Nat) (own : Tags) (pv nv fv lv wv : Value) (N : NetV) (ms : List Nat) (from_ to_ : List Int) (A1 A2 : Option Addr) (c1 c2 : Nat)
  (hN : NetW w w0.heap.size X own pv nv fv lv wv N ms) (h1 : Kd.C (Kd.int .i64) w A1 from_.length from_) (hc1 : from_.length ≤ c1) (h2 : Kd.C (Kd.int .i64) w A2 to_.length to_) (hc2 : to_.length ≤ c2)
  (hf : ∀ a ∈ from_, 0 ≤ a ∧ a < N.fol.length) (ht : ∀ b ∈ to_, 0 ≤ b ∧ b < 4096) (hB : Below w0.heap.size w0 w) :
  Calls Try.prog 65 #[.pointer (some ⟨X, 0, none⟩), .slice A1 from_.length c1, .slice A2 to_.length c2] w fun e w' => e = .returned (.tuple #[]) ∧ NetW w' w0.heap.size X own pv nv fv lv wv { N with fol := leadL N.fol from_ to_ } ms ∧ Kept w w' (fun k => own k = 8) ∧ Below w0.heap.size w0 w' := by
 have HF := Aside0.mk hf
 have HT := Aside0.mk ht
 have HN := Aside0.mk hN
 have H1 := Aside0.mk h1
 have H2 := Aside0.mk h2
 have HB := Aside0.mk hB
 have hm1 : from_.length ≤ 9223372036854775807 := Kd.C_max h1
 have hm2 : to_.length ≤ 9223372036854775807 := Kd.C_max h2
 clear hf ht hN h1 h2 hB
 obtain ⟨n1, hn1⟩ : ∃ n, from_.length = n := ⟨_, rfl⟩
 obtain ⟨n2, hn2⟩ : ∃ n, to_.length = n := ⟨_, rfl⟩
 rw [hn1] at hc1 hm1 ⊢
 rw [hn2] at hc2 hm2 ⊢
 have HN1 := Aside0.mk hn1
 have HN2 := Aside0.mk hn2
 clear hn1 hn2
 go_enter Try.func65, Try.ntmps65
 go_wp2
 go_loopg [12] n1 (fun gg s12 wr => ∃ i : Nat, i ≤ n1 ∧ n1 - i ≤ gg ∧ s12 = .int .i64 i ∧ Aside0 (NetW wr w0.heap.size X own pv nv fv lv wv { N with fol := leadL N.fol (from_.take i) to_ } ms) ∧ Aside0 (Kd.C (Kd.int .i64) wr A1 from_.length from_) ∧ Aside0 (Kd.C (Kd.int .i64) wr A2 to_.length to_) ∧ Aside0 (Kept w wr (fun k => own k = 8)) ∧ Aside0 (Below w0.heap.size w0 wr))
 case atStart => exact ⟨0, Nat.zero_le _, by omega, rfl, HN, H1, H2, ⟨Kept.refl _ _⟩, HB⟩
 case round =>
  obtain ⟨i, hi, hg, rfl, GN, G1, G2, GK, GB⟩ := hrel
  clear HN H1 H2 HB
  by_cases hlt : i < n1
  ·have hlz : (i : Int) < (n1 : Int) := by omega
   have hl : i < from_.length := by have := HN1.out; omega
   obtain ⟨ad, e, hcell⟩ := Kd.at_int G1.out (i : Int) (by omega) (by omega)
   subst e
   rw [Int.toNat_natCast] at hcell
   have HS := Aside0.mk (take_snoc hl)
   have HA := Aside0.mk (HF.out (rd from_ (i : Int)) (by unfold rd; rw [Int.toNat_natCast, List.getD_eq_getElem?_getD, List.getElem?_eq_getElem hl]; exact List.getElem_mem hl))
   have HG := Aside0.mk hg
   clear hl hg
   generalize rd from_ (i : Int) = a at hcell HS HA
   go_wp2
   obtain ⟨wo, rfl⟩ : ∃ wo : World, wo = wr := ⟨_, rfl⟩
   go_loopg [18] n2 (fun gg s18 wr => ∃ j : Nat, j ≤ n2 ∧ n2 - j ≤ gg ∧ s18 = .int .i64 j ∧ Aside0 (NetW wr w0.heap.size X own pv nv fv lv wv { N with fol := leadTo (leadL N.fol (from_.take i) to_) a (to_.take j) } ms) ∧ Aside0 (Kd.C (Kd.int .i64) wr (some ad) from_.length from_) ∧ Aside0 (Kd.C (Kd.int .i64) wr A2 to_.length to_) ∧ Aside0 (Kept w wr (fun k => own k = 8)) ∧ Aside0 (Below w0.heap.size w0 wr))
   case atStart =>
    refine ⟨0, Nat.zero_le _, by omega, rfl, ⟨?_⟩, G1, G2, GK, GB⟩
    rw [List.take_zero, leadTo_nil _ _ (by rw [leadL_length]; have := HA.out; omega)]
    exact GN.out
   case round =>
    obtain ⟨j, hj, hg2, rfl, LN, L1, L2, LK, LB⟩ := hrel
    clear GN G1 G2 GK GB
    by_cases hlt2 : j < n2
    ·have hlz2 : (j : Int) < (n2 : Int) := by omega
     have hl2 : j < to_.length := by have := HN2.out; omega
     obtain ⟨ad2, e, hcell2⟩ := Kd.at_int L2.out (j : Int) (by omega) (by omega)
     subst e
     rw [Int.toNat_natCast] at hcell2
     have HS2 := Aside0.mk (take_snoc hl2)
     have HA2 := Aside0.mk (HT.out (rd to_ (j : Int)) (by unfold rd; rw [Int.toNat_natCast, List.getD_eq_getElem?_getD, List.getElem?_eq_getElem hl2]; exact List.getElem_mem hl2))
     have HG2 := Aside0.mk hg2
     clear hl2 hg2
     generalize rd to_ (j : Int) = b at hcell2 HS2 HA2
     obtain ⟨-, -, -, -, hx4, -⟩ := LN.out.cellAt
     have HL := Aside0.mk (show (leadTo (leadL N.fol (from_.take i) to_) a (to_.take j)).length = N.fol.length by rw [leadTo_length, leadL_length])
     obtain ⟨g, c, mb, e, hc3, hmc, hms, hmi⟩ := LN.out.map_at a HA.out.1 (by rw [HL.out]; exact HA.out.2)
     have hE := Aside0.mk e
     rw [HL.out] at e hc3
     rw [e] at hx4
     have HMS := Aside0.mk hms
     have HMI := Aside0.mk hmi
     clear e hms hmi
     have ha0 : 0 ≤ a := HA.out.1
     have ha1 : a < (N.fol.length : Int) := HA.out.2
     have hb0 : 0 ≤ b := HA2.out.1
     have hb1 : b < 4096 := HA2.out.2
     go_wp2_with (at_mapUpdate; refine set_add rfl _ _ _ rfl mb _ b rfl HMS.out rfl rfl hb0 hb1 ?_; intro w1 hown1 hturn1)
     have hX := LN.out.stored HMI.out hown1 hturn1
     have hS := HS2.out
     go_roundg (n2 - (j + 1))
     case measure => have := HG2.out; omega
     case rel =>
      refine ⟨j + 1, by omega, by omega, by go_num, ⟨?_⟩, ⟨ints_turned hturn1 L1.out⟩, ⟨ints_turned hturn1 L2.out⟩, ⟨?_⟩, ⟨?_⟩⟩
      ·rw [hS, leadTo_snoc _ _ _ _ (by rw [leadL_length]; omega)]
       exact hX
      ·exact Kept.of_grown hturn1.grown LK.out (fun k hk => .inl (by injection hk with hk; rw [← hk]; exact LN.out.m.own_ mb (List.mem_of_getElem? HMI.out)))
      ·exact pw_below_grown LB.out (some mb) LB.out.size hturn1.grown (fun k hk => by injection hk with hk; rw [← hk]; exact LN.out.m.lo mb (List.mem_of_getElem? HMI.out))
    ·have hlz2 : ¬ ((j : Int) < (n2 : Int)) := by omega
     have : j = n2 := by omega
     subst this
     have hS := HS.out
     have hLN := LN.out
     rw [List.take_of_length_le (l := to_) (by have := HN2.out; omega), ← leadL_snoc, ← hS] at hLN
     have HQ := Aside0.mk hLN
     clear hLN hS LN
     go_wp2
     go_roundg (n1 - (i + 1))
     case measure => have := HG.out; omega
     case rel => exact ⟨i + 1, by omega, by omega, by go_num, HQ, L1, L2, LK, LB⟩
  ·have hlz : ¬ ((i : Int) < (n1 : Int)) := by omega
   have : i = n1 := by omega
   subst this
   have hGN := GN.out
   rw [List.take_of_length_le (l := from_) (by have := HN1.out; omega)] at hGN
   have HQ := Aside0.mk hGN
   clear hGN GN
   go_wp2
   go_end0
   exact ⟨rfl, HQ.out, GK.out, GB.out⟩
end Go.Proofs.Ytejkkdjfiebmfaa.L
