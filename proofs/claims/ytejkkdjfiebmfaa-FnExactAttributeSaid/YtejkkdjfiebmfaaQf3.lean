/- Words and contracts for the row RowFnExactAttribute: what the Go functions answer that it calls; printed by programs of the kit and of this session, and merged. -/
import Derived.Test.YtejkkdjfiebmfaaQf2
namespace Go.Proofs.Ytejkkdjfiebmfaa.L
open Go.RowKit Go.Proofs.YtejkkdjfiebmfaaW.PrintWords Go.Proofs.YtejkkdjfiebmfaaW.PrintLast Go.Proofs.YtejkkdjfiebmfaaW.PrintMore
attribute [local go_sem] max2_int min2_int max_two min_two max_three min_three max_four min_four
set_option linter.unusedVariables false
set_option linter.unusedSimpArgs false

/-! ### spec_l1More: function 74 -/
def spec_l1More.f (a0 : Int) : Option (Bool) := (spec_l1First.f a0).bind fun t105 => (if t105 = true then (some true) else ((spec_l1Digit.f a0).bind fun t106 => (if t106 = true then (some true) else (if a0 = 46 then (some true) else (some (a0 == 45))))))
set_option maxHeartbeats 8000000 in
set_option maxRecDepth 100000 in
theorem spec_l1More.calls (a0 : Int) (r : Bool) (w : World) (h : spec_l1More.f a0 = some r) :
  Calls Try.prog 74 #[.int .u8 a0] w fun e w' => e = .returned (.bool r) ∧ Drawn0 w w' := by
 have H : ((spec_l1First.f a0).bind fun t105 => (if t105 = true then (some true) else ((spec_l1Digit.f a0).bind fun t106 => (if t106 = true then (some true) else (if a0 = 46 then (some true) else (some (a0 == 45))))))) = some r := h
 clear h
 replace H := Option.bind_eq_some_iff.mp H
 obtain ⟨t105, A20, H⟩ := H
 replace H : (if t105 = true then (some true) else ((spec_l1Digit.f a0).bind fun t106 => (if t106 = true then (some true) else (if a0 = 46 then (some true) else (some (a0 == 45)))))) = some r := H
 have A2 := Aside0.mk A20
 clear A20
 by_cases c3 : t105 = true
 ·subst c3
  have H1 : (some true) = some r := by rw [if_pos rfl] at H; exact H
  clear H
  have H := H1
  clear H1
  obtain rfl := Option.some.inj H
  go_enter Try.func74, Try.ntmps74
  go_wp2_with (first | ((with_reducible refine gate_callee (f := 73) rfl ?_); refine goesL_ (some 4) rfl rfl Try.func73 dq21 rfl #[.int .u8 a0] rfl dq20 ?_; (with_reducible refine (spec_l1First.calls a0 true _ A2.out).mono ?_); rintro e w' ⟨rfl, ⟨nd, rfl⟩⟩; refine ⟨_, rfl, ?_⟩))
  go_ret
  exact ⟨dq15, dq14⟩
 replace c3 := Bool.eq_false_iff.mpr c3
 subst c3
 have H1 : ((spec_l1Digit.f a0).bind fun t106 => (if t106 = true then (some true) else (if a0 = 46 then (some true) else (some (a0 == 45))))) = some r := by rw [if_neg (show ¬ (false = true) by decide)] at H; exact H
 clear H
 have H := H1
 clear H1
 replace H := Option.bind_eq_some_iff.mp H
 obtain ⟨t106, A40, H⟩ := H
 replace H : (if t106 = true then (some true) else (if a0 = 46 then (some true) else (some (a0 == 45)))) = some r := H
 have A4 := Aside0.mk A40
 clear A40
 by_cases c5 : t106 = true
 ·subst c5
  have H1 : (some true) = some r := by rw [if_pos rfl] at H; exact H
  clear H
  have H := H1
  clear H1
  obtain rfl := Option.some.inj H
  go_enter Try.func74, Try.ntmps74
  go_wp2_with (first | ((with_reducible refine gate_callee (f := 73) rfl ?_); refine goesL_ (some 4) rfl rfl Try.func73 dq21 rfl #[.int .u8 a0] rfl dq20 ?_; (with_reducible refine (spec_l1First.calls a0 false _ A2.out).mono ?_); rintro e w' ⟨rfl, ⟨nd, rfl⟩⟩; refine ⟨_, rfl, ?_⟩) | (go_at_call 89; (with_reducible refine (spec_l1Digit.calls a0 true _ A4.out).mono ?_); rintro e w' ⟨rfl, ⟨nd, rfl⟩⟩))
  go_ret
  exact ⟨dq15, dq14⟩
 replace c5 := Bool.eq_false_iff.mpr c5
 subst c5
 have H1 : (if a0 = 46 then (some true) else (some (a0 == 45))) = some r := by rw [if_neg (show ¬ (false = true) by decide)] at H; exact H
 clear H
 have H := H1
 clear H1
 by_cases c6 : a0 = 46
 rotate_left
 ·rw [if_neg c6] at H
  have c6b0 := beq_eq_false_iff_ne.mpr c6
  have c6b1 := bne_iff_ne.mpr c6
  obtain rfl := Option.some.inj H
  go_enter Try.func74, Try.ntmps74
  go_wp2_with (first | ((with_reducible refine gate_callee (f := 73) rfl ?_); refine goesL_ (some 4) rfl rfl Try.func73 dq21 rfl #[.int .u8 a0] rfl dq20 ?_; (with_reducible refine (spec_l1First.calls a0 false _ A2.out).mono ?_); rintro e w' ⟨rfl, ⟨nd, rfl⟩⟩; refine ⟨_, rfl, ?_⟩) | (go_at_call 89; (with_reducible refine (spec_l1Digit.calls a0 false _ A4.out).mono ?_); rintro e w' ⟨rfl, ⟨nd, rfl⟩⟩))
  go_ret
  exact ⟨dq15, dq14⟩
 rw [if_pos c6] at H
 have c6b0 := beq_iff_eq.mpr c6
 have c6b1 := bne_eq_false_iff_eq.mpr c6
 clear c6
 obtain rfl := Option.some.inj H
 go_enter Try.func74, Try.ntmps74
 go_wp2_with (first | ((with_reducible refine gate_callee (f := 73) rfl ?_); refine goesL_ (some 4) rfl rfl Try.func73 dq21 rfl #[.int .u8 a0] rfl dq20 ?_; (with_reducible refine (spec_l1First.calls a0 false _ A2.out).mono ?_); rintro e w' ⟨rfl, ⟨nd, rfl⟩⟩; refine ⟨_, rfl, ?_⟩) | (go_at_call 89; (with_reducible refine (spec_l1Digit.calls a0 false _ A4.out).mono ?_); rintro e w' ⟨rfl, ⟨nd, rfl⟩⟩))
 go_ret
 exact ⟨dq15, dq14⟩

/-! ### spec_NameOk: function 59 -/
mutual
def spec_NameOk.j0 : Nat → ByteArray → Bool → Option (Bool)
 | 0, _, _ => none
 | k + 1, x0, x17 => if x17 = true then (some false) else (spec_NameOk.l0 k x0 1)
def spec_NameOk.l0 : Nat → ByteArray → Int → Option (Bool)
 | 0, _, _ => none
 | k + 1, x0, x3 => if x3 < (x0.size : Int) then (if 0 ≤ x3 then ((spec_l1More.f (bt x0 x3)).bind fun t108 => (if t108 = true then (spec_NameOk.l0 k x0 (wrap64 (x3 + 1))) else (some false))) else (none)) else (some true)
end
def spec_NameOk.f (k : Nat) (a0 : ByteArray) : Option (Bool) := if (a0.size : Int) < 1 then (spec_NameOk.j0 k a0 true) else (if (a0.size : Int) > 40 then (spec_NameOk.j0 k a0 true) else (if 0 < (a0.size : Int) then ((spec_l1First.f (bt a0 0)).bind fun t107 => (spec_NameOk.j0 k a0 (!t107))) else (none)))
set_option maxHeartbeats 8000000 in
set_option maxRecDepth 100000 in
theorem spec_NameOk.calls (k : Nat) (a0 : ByteArray) (r : Bool) (w : World) (h : spec_NameOk.f k a0 = some r) :
  Calls Try.prog 59 #[.string a0] w fun e w' => e = .returned (.bool r) ∧ Drawn0 w w' := by
 have H : (if (a0.size : Int) < 1 then (spec_NameOk.j0 k a0 true) else (if (a0.size : Int) > 40 then (spec_NameOk.j0 k a0 true) else (if 0 < (a0.size : Int) then ((spec_l1First.f (bt a0 0)).bind fun t107 => (spec_NameOk.j0 k a0 (!t107))) else (none)))) = some r := h
 clear h
 have HC2 := Aside0.mk H
 clear H
 go_enter Try.func59, Try.ntmps59
 go_upto_region 1 with (fail)
 go_cut [17] (fun v17 wc => ∃ (kq : Nat) (x17_1 : Bool), v17 = .bool x17_1 ∧ Aside0 (spec_NameOk.j0 kq a0 x17_1 = some r) ∧ Aside0 (kq ≤ k) ∧ Drawn0 w wc)
 case first =>
  have H := HC2.out
  clear HC2
  by_cases c3 : (a0.size : Int) < 1
  ·rw [if_pos c3] at H
   have c3b0 := decide_eq_true c3
   have c3b1 : decide (a0.size < 1) = true := decide_eq_true dq25
   clear c3
   (first | rw [c3b0] | (simp only [i64_w, i32_w]; rw [c3b0]) | skip)
   have H' := Aside0.mk H
   clear H
   go_wp2
   go_meet
   case rel => exact ⟨_, (true), dq15, H', ⟨dq45⟩, dq14⟩
  rw [if_neg c3] at H
  have c3b0 := decide_eq_false c3
  have c3b1 : decide (a0.size < 1) = false := decide_eq_false dq25
  clear c3
  (first | rw [c3b0] | (simp only [i64_w, i32_w]; rw [c3b0]) | skip)
  by_cases c4 : (a0.size : Int) > 40
  ·rw [if_pos c4] at H
   have c4b0 : decide (40 < (a0.size : Int)) = true := decide_eq_true c4
   have c4b1 : decide (40 < a0.size) = true := decide_eq_true dq25
   clear c4
   have H' := Aside0.mk H
   clear H
   go_wp2
   go_meet
   case rel => exact ⟨_, (true), dq15, H', ⟨dq45⟩, dq14⟩
  rw [if_neg c4] at H
  have c4b0 : decide (40 < (a0.size : Int)) = false := decide_eq_false c4
  have c4b1 : decide (40 < a0.size) = false := decide_eq_false dq25
  clear c4
  by_cases c5 : 0 < (a0.size : Int)
  rotate_left
  ·rw [if_neg c5] at H
   exact absurd H dq24
  rw [if_pos c5] at H
  have c5b0 := decide_eq_true c5
  have c5b1 : decide (0 < a0.size) = true := decide_eq_true dq25
  clear c5
  replace H := Option.bind_eq_some_iff.mp H
  obtain ⟨t107, A70, H⟩ := H
  replace H : (spec_NameOk.j0 k a0 (!t107)) = some r := H
  have A7 := Aside0.mk A70
  clear A70
  have H' := Aside0.mk H
  clear H
  have p6 : 0 ≤ (0 : Int) := dq25
  have q6 : 0 < a0.size := (by have : (0 : Int) < (a0.size : Int) := of_decide_eq_true dq22; omega)
  have hx6 : ∀ h : 0 < a0.size, ((a0[0]'h).toNat : Int) = bt a0 0 := bt_at a0 0
  clear p6
  have qi6 : (0 < (a0.size : Int)) = True := eq_true (of_decide_eq_true dq22)
  replace q6 := eq_true q6
  go_wp2_with (first | (go_at_call 73; (with_reducible refine (spec_l1First.calls (bt a0 0) t107 _ A7.out).mono ?_); rintro e w' ⟨rfl, ⟨nd, rfl⟩⟩))
  go_meet
  case rel => exact ⟨_, (!t107), dq15, H', ⟨dq45⟩, dq14⟩
 clear HC2
 try clear p2
 try clear c3
 try clear c3b0
 try clear c3b1
 try clear c4
 try clear c4b0
 try clear c4b1
 try clear c5
 try clear c5b0
 try clear c5b1
 try clear p6
 try clear q6
 try clear hx6
 try clear qi6
 try clear p6
 try clear q6
 obtain ⟨kq, x17_1, rfl, HA, HJ1, ⟨mc1, rfl⟩⟩ := hcut
 cases kq with
 | zero => exact absurd HA.out (by simp [spec_NameOk.j0])
 | succ kj1 =>
  have H := HA.out
  clear HA
  simp only [spec_NameOk.j0] at H
  by_cases c8 : x17_1 = true
  ·subst c8
   have H1 : (some false) = some r := by rw [if_pos rfl] at H; exact H
   clear H
   have H := H1
   clear H1
   obtain rfl := Option.some.inj H
   go_wp2
   go_ret
   exact ⟨dq15, dq14⟩
  replace c8 := Bool.eq_false_iff.mpr c8
  subst c8
  have H1 : (spec_NameOk.l0 kj1 a0 1) = some r := by rw [if_neg (show ¬ (false = true) by decide)] at H; exact H
  clear H
  have H := H1
  clear H1
  have H' := Aside0.mk H
  clear H
  go_wp2
  go_loopg [3] kj1 (fun kq v3 w' => ∃ (x3_2 : Int), v3 = .int .i64 x3_2 ∧ Aside0 (spec_NameOk.l0 kq a0 x3_2 = some r) ∧ Aside0 (kq ≤ kj1) ∧ Drawn0 w w')
  case atStart => exact ⟨(1), dq15, H', ⟨Nat.le_refl _⟩, dq14⟩
  clear H'
  try clear c1
  try clear p2
  try clear c3
  try clear c3b0
  try clear c3b1
  try clear c4
  try clear c4b0
  try clear c4b1
  try clear c5
  try clear c5b0
  try clear c5b1
  try clear p6
  try clear q6
  try clear hx6
  try clear qi6
  try clear c8
  try clear p2
  try clear p6
  try clear q6
  obtain ⟨x3_2, rfl, HA, HK2, ⟨m2, rfl⟩⟩ := hrel
  cases gk with
  | zero => exact absurd HA.out (by simp [spec_NameOk.l0])
  | succ k2 =>
   have H := HA.out
   clear HA
   simp only [spec_NameOk.l0] at H
   by_cases c9 : x3_2 < (a0.size : Int)
   rotate_left
   ·rw [if_neg c9] at H
    have c9b0 := decide_eq_false c9
    clear c9
    obtain rfl := Option.some.inj H
    go_wp2
    go_ret
    exact ⟨dq15, dq14⟩
   rw [if_pos c9] at H
   have c9b0 := decide_eq_true c9
   clear c9
   by_cases c10 : 0 ≤ x3_2
   rotate_left
   ·rw [if_neg c10] at H
    exact absurd H dq24
   rw [if_pos c10] at H
   have c10b0 := decide_eq_true c10
   clear c10
   replace H := Option.bind_eq_some_iff.mp H
   obtain ⟨t108, A120, H⟩ := H
   replace H : (if t108 = true then (spec_NameOk.l0 k2 a0 (wrap64 (x3_2 + 1))) else (some false)) = some r := H
   have A12 := Aside0.mk A120
   clear A120
   by_cases c13 : t108 = true
   rotate_left
   ·replace c13 := Bool.eq_false_iff.mpr c13
    subst c13
    have H1 : (some false) = some r := by rw [if_neg (show ¬ (false = true) by decide)] at H; exact H
    clear H
    have H := H1
    clear H1
    obtain rfl := Option.some.inj H
    have p11 : 0 ≤ (x3_2 : Int) := of_decide_eq_true dq22
    have q11 : x3_2 < (a0.size : Int) := of_decide_eq_true dq22
    have hx11 := bt_at a0 x3_2
    replace p11 := eq_true p11
    replace q11 := eq_true q11
    go_wp2_with (first | ((with_reducible refine gate_callee (f := 74) rfl ?_); refine goesL_ (some 27) rfl rfl Try.func74 dq21 rfl #[.int .u8 (bt a0 x3_2)] rfl dq20 ?_; (with_reducible refine (spec_l1More.calls (bt a0 x3_2) false _ A12.out).mono ?_); rintro e w' ⟨rfl, ⟨nd, rfl⟩⟩; refine ⟨_, rfl, ?_⟩))
    go_ret
    exact ⟨dq15, dq14⟩
   subst c13
   have H1 : (spec_NameOk.l0 k2 a0 (wrap64 (x3_2 + 1))) = some r := by rw [if_pos rfl] at H; exact H
   clear H
   have H := H1
   clear H1
   have H' := Aside0.mk H
   clear H
   have p11 : 0 ≤ (x3_2 : Int) := of_decide_eq_true dq22
   have q11 : x3_2 < (a0.size : Int) := of_decide_eq_true dq22
   have hx11 := bt_at a0 x3_2
   replace p11 := eq_true p11
   replace q11 := eq_true q11
   go_wp2_with (first | ((with_reducible refine gate_callee (f := 74) rfl ?_); refine goesL_ (some 27) rfl rfl Try.func74 dq21 rfl #[.int .u8 (bt a0 x3_2)] rfl dq20 ?_; (with_reducible refine (spec_l1More.calls (bt a0 x3_2) true _ A12.out).mono ?_); rintro e w' ⟨rfl, ⟨nd, rfl⟩⟩; refine ⟨_, rfl, ?_⟩))
   go_roundg k2
   case measure => have := HJ1.out; have := HK2.out; omega
   case rel => exact ⟨(wrap64 (x3_2 + 1)), dq15, H', ⟨by have := HJ1.out; have := HK2.out; omega⟩, dq14⟩

/-! ### spec_l8Tree: function 60 -/
mutual
def spec_l8Tree.l0 : Nat → List (S49) → Int → Int → Int → Option (Int)
 | 0, _, _, _, _ => none
 | k + 1, x0, x1, x5, x6 => if x6 ≥ 0 then (if x5 < 0 then (spec_l8Tree.j1 k x0 x1 x5 x6 true) else (if 0 ≤ x1 then (if x1 < (x0.length : Int) then (if 0 ≤ x6 then (if x6 < (((rd_T49 x0 x1).f2).length : Int) then (spec_l8Tree.j1 k x0 x1 x5 x6 ((rd ((rd_T49 x0 x1).f2) x6) != x5)) else (none)) else (none)) else (none)) else (none))) else (some (wrap64 (x5 + 1)))
def spec_l8Tree.j1 : Nat → List (S49) → Int → Int → Int → Bool → Option (Int)
 | 0, _, _, _, _, _ => none
 | k + 1, x0, x1, x5, x6, x34 => if x34 = true then (some (-1)) else ((spec_l8Tree.f k x0 x5).bind fun t112 => (if t112 < 0 then (some (-1)) else (spec_l8Tree.l0 k x0 x1 (wrap64 (t112 - 1)) (wrap64 (x6 - 1)))))
def spec_l8Tree.f : Nat → List (S49) → Int → Option (Int)
 | 0, _, _ => none
 | k + 1, l0, a1 => if 0 ≤ a1 then (if a1 < (l0.length : Int) then (spec_l8Tree.l0 k l0 a1 (wrap64 (a1 - 1)) (wrap64 ((((rd_T49 l0 a1).f2).length : Int) - 1))) else (none)) else (none)
end
set_option maxHeartbeats 8000000 in
set_option maxRecDepth 100000 in
theorem spec_l8Tree.calls (k : Nat) : ∀ (A0 : Option Addr) (c0 : Nat) (l0 : List (S49)) (a1 : Int) (r : Int) (w : World) (hr0 : Kd.C k49 w A0 l0.length l0) (hc0 : l0.length ≤ c0) (h : spec_l8Tree.f k l0 a1 = some r),
  Calls Try.prog 60 #[.slice A0 l0.length c0, .int .i64 a1] w fun e w' => e = .returned (.int .i64 r) ∧ Drawn0 w w' := by
 induction k using Nat.strongRecOn with
 | _ k ih =>
 intro A0 c0 l0 a1 r w hr0 hc0 h
 cases k with
 | zero => exact absurd h (by simp [spec_l8Tree.f])
 | succ k =>
 simp only [spec_l8Tree.f] at h
 have HR0 := Aside0.mk hr0
 have HC0 := Aside0.mk hc0
 clear hr0 hc0
 have H : (if 0 ≤ a1 then (if a1 < (l0.length : Int) then (spec_l8Tree.l0 k l0 a1 (wrap64 (a1 - 1)) (wrap64 ((((rd_T49 l0 a1).f2).length : Int) - 1))) else (none)) else (none)) = some r := h
 clear h
 by_cases c3 : 0 ≤ a1
 rotate_left
 ·rw [if_neg c3] at H
  exact absurd H dq24
 rw [if_pos c3] at H
 have c3b0 := decide_eq_true c3
 clear c3
 by_cases c4 : a1 < (l0.length : Int)
 rotate_left
 ·rw [if_neg c4] at H
  exact absurd H dq24
 rw [if_pos c4] at H
 have c4b0 := decide_eq_true c4
 clear c4
 have H' := Aside0.mk H
 clear H
 have p109 : 0 ≤ (a1 : Int) := of_decide_eq_true dq22
 have q109 : a1 < (l0.length : Int) := of_decide_eq_true dq22
 obtain ⟨ad109, A109_2, c109_2, e109, hx109_0, hx109_1, hx109_2, hx109_3, hl109_2, hi109_2⟩ := at_T49 HR0.out a1 p109 q109
 cases e109
 have HR109_2 := Aside0.mk hi109_2
 have HC109_2 := Aside0.mk hl109_2
 clear hi109_2 hl109_2
 replace p109 := eq_true p109
 replace q109 := eq_true q109
 go_enter Try.func60, Try.ntmps60
 go_wp2
 go_loopg [5, 6] k (fun kq v5 v6 w' => ∃ (x5_1 : Int) (x6_1 : Int), v5 = .int .i64 x5_1 ∧ v6 = .int .i64 x6_1 ∧ Aside0 (spec_l8Tree.l0 kq l0 a1 x5_1 x6_1 = some r) ∧ Aside0 (kq ≤ k) ∧ Drawn0 w w')
 case atStart => exact ⟨(wrap64 (a1 - 1)), (wrap64 ((((rd_T49 l0 a1).f2).length : Int) - 1)), dq15, dq15, H', ⟨Nat.le_refl _⟩, dq14⟩
 clear H'
 try clear c1
 try clear p1
 try clear q1
 try clear hx1
 try clear p2
 try clear c3
 try clear c3b0
 try clear c4
 try clear c4b0
 try clear hx109_0
 try clear hx109_1
 try clear hx109_2
 try clear hx109_3
 try clear p109
 try clear q109
 obtain ⟨x5_1, x6_1, rfl, rfl, HA, HK1, ⟨m1, rfl⟩⟩ := hrel
 cases gk with
 | zero => exact absurd HA.out (by simp [spec_l8Tree.l0])
 | succ k1 =>
  have H := HA.out
  clear HA
  simp only [spec_l8Tree.l0] at H
  by_cases c5 : x6_1 ≥ 0
  rotate_left
  ·rw [if_neg c5] at H
   have c5b0 : decide (0 ≤ x6_1) = false := decide_eq_false c5
   clear c5
   obtain rfl := Option.some.inj H
   go_wp2
   go_ret
   exact ⟨dq15, dq14⟩
  rw [if_pos c5] at H
  have c5b0 : decide (0 ≤ x6_1) = true := decide_eq_true c5
  clear c5
  have HC6 := Aside0.mk H
  clear H
  go_upto_region 5 with (fail)
  go_cut [34] (fun v34 wc => ∃ (kq : Nat) (x34_5 : Bool), v34 = .bool x34_5 ∧ Aside0 (spec_l8Tree.j1 kq l0 a1 x5_1 x6_1 x34_5 = some r) ∧ Aside0 (kq ≤ k1) ∧ Drawn0 w wc)
  case first =>
   have H := HC6.out
   clear HC6
   by_cases c7 : x5_1 < 0
   ·rw [if_pos c7] at H
    have c7b0 := decide_eq_true c7
    clear c7
    (first | rw [c7b0] | (simp only [i64_w, i32_w]; rw [c7b0]) | skip)
    have H' := Aside0.mk H
    clear H
    go_wp2
    go_meet
    case rel => exact ⟨_, (true), dq15, H', ⟨dq46⟩, dq14⟩
   rw [if_neg c7] at H
   have c7b0 := decide_eq_false c7
   clear c7
   (first | rw [c7b0] | (simp only [i64_w, i32_w]; rw [c7b0]) | skip)
   by_cases c8 : 0 ≤ a1
   rotate_left
   ·rw [if_neg c8] at H
    exact absurd H dq24
   rw [if_pos c8] at H
   have c8b0 := decide_eq_true c8
   clear c8
   by_cases c9 : a1 < (l0.length : Int)
   rotate_left
   ·rw [if_neg c9] at H
    exact absurd H dq24
   rw [if_pos c9] at H
   have c9b0 := decide_eq_true c9
   clear c9
   by_cases c10 : 0 ≤ x6_1
   rotate_left
   ·rw [if_neg c10] at H
    exact absurd H dq24
   rw [if_pos c10] at H
   have c10b0 := decide_eq_true c10
   clear c10
   by_cases c11 : x6_1 < (((rd_T49 l0 a1).f2).length : Int)
   rotate_left
   ·rw [if_neg c11] at H
    exact absurd H dq24
   rw [if_pos c11] at H
   have c11b0 := decide_eq_true c11
   clear c11
   have H' := Aside0.mk H
   clear H
   have p110 : 0 ≤ (a1 : Int) := of_decide_eq_true dq22
   have q110 : a1 < (l0.length : Int) := of_decide_eq_true dq22
   obtain ⟨ad110, A110_2, c110_2, e110, hx110_0, hx110_1, hx110_2, hx110_3, hl110_2, hi110_2⟩ := at_T49 HR0.out a1 p110 q110
   obtain rfl : ad109 = ad110 := (by injection e110)
   have HR110_2 := Aside0.mk hi110_2
   have HC110_2 := Aside0.mk hl110_2
   clear hi110_2 hl110_2
   replace p110 := eq_true p110
   replace q110 := eq_true q110
   have p111 : 0 ≤ (x6_1 : Int) := of_decide_eq_true dq22
   have q111 : x6_1 < (((rd_T49 l0 a1).f2).length : Int) := of_decide_eq_true dq22
   obtain ⟨ad111, e111, hx111_0⟩ := Kd.at_int HR110_2.out x6_1 p111 q111
   cases e111
   replace p111 := eq_true p111
   replace q111 := eq_true q111
   go_wp2
   go_meet
   case rel => exact ⟨_, (((rd ((rd_T49 l0 a1).f2) x6_1) != x5_1)), dq15, H', ⟨dq46⟩, dq14⟩
  clear HC6
  try clear c1
  try clear p1
  try clear q1
  try clear hx1
  try clear p2
  try clear c3
  try clear c3b0
  try clear c4
  try clear c4b0
  try clear c5
  try clear c5b0
  try clear c6
  try clear p6
  try clear c7
  try clear c7b0
  try clear c8
  try clear c8b0
  try clear c9
  try clear c9b0
  try clear c10
  try clear c10b0
  try clear p10
  try clear q10
  try clear hx10
  try clear c11
  try clear c11b0
  try clear p11
  try clear q11
  try clear hx11
  try clear hx109_0
  try clear hx109_1
  try clear hx109_2
  try clear hx109_3
  try clear hx110_0
  try clear hx110_1
  try clear hx110_2
  try clear hx110_3
  try clear hx111_0
  try clear p1
  try clear p109
  try clear p110
  try clear p111
  try clear p2
  try clear q1
  try clear q109
  try clear q110
  try clear q111
  obtain ⟨kq, x34_5, rfl, HA, HJ5, ⟨mc5, rfl⟩⟩ := hcut
  cases kq with
  | zero => exact absurd HA.out (by simp [spec_l8Tree.j1])
  | succ kj5 =>
   have H := HA.out
   clear HA
   simp only [spec_l8Tree.j1] at H
   by_cases c12 : x34_5 = true
   ·subst c12
    have H1 : (some (-1)) = some r := by rw [if_pos rfl] at H; exact H
    clear H
    have H := H1
    clear H1
    obtain rfl := Option.some.inj H
    go_wp2
    go_ret
    exact ⟨dq15, dq14⟩
   replace c12 := Bool.eq_false_iff.mpr c12
   subst c12
   have H1 : ((spec_l8Tree.f kj5 l0 x5_1).bind fun t112 => (if t112 < 0 then (some (-1)) else (spec_l8Tree.l0 kj5 l0 a1 (wrap64 (t112 - 1)) (wrap64 (x6_1 - 1))))) = some r := by rw [if_neg (show ¬ (false = true) by decide)] at H; exact H
   clear H
   have H := H1
   clear H1
   replace H := Option.bind_eq_some_iff.mp H
   obtain ⟨t112, A130, H⟩ := H
   replace H : (if t112 < 0 then (some (-1)) else (spec_l8Tree.l0 kj5 l0 a1 (wrap64 (t112 - 1)) (wrap64 (x6_1 - 1)))) = some r := H
   have A13 := Aside0.mk A130
   clear A130
   by_cases c14 : t112 < 0
   ·rw [if_pos c14] at H
    have c14b0 := decide_eq_true c14
    clear c14
    obtain rfl := Option.some.inj H
    go_wp2_with (first | ((with_reducible refine gate_callee (f := 60) rfl ?_); refine goesL_ (some 37) rfl rfl Try.func60 dq21 rfl #[.slice (some ad109) l0.length c0, .int .i64 x5_1] rfl dq20 ?_; (with_reducible refine (ih kj5 (by have := HK1.out; have := HJ5.out; omega) _ _ l0 x5_1 t112 _ ?side1 ?side2 A13.out).mono ?_); (case side1 => exact dq3); (case side2 => exact dq4); rintro e w' ⟨rfl, ⟨nd, rfl⟩⟩; refine ⟨_, rfl, ?_⟩))
    go_ret
    exact ⟨dq15, dq14⟩
   rw [if_neg c14] at H
   have c14b0 := decide_eq_false c14
   clear c14
   have H' := Aside0.mk H
   clear H
   go_wp2_with (first | ((with_reducible refine gate_callee (f := 60) rfl ?_); refine goesL_ (some 37) rfl rfl Try.func60 dq21 rfl #[.slice (some ad109) l0.length c0, .int .i64 x5_1] rfl dq20 ?_; (with_reducible refine (ih kj5 (by have := HK1.out; have := HJ5.out; omega) _ _ l0 x5_1 t112 _ ?side1 ?side2 A13.out).mono ?_); (case side1 => exact dq3); (case side2 => exact dq4); rintro e w' ⟨rfl, ⟨nd, rfl⟩⟩; refine ⟨_, rfl, ?_⟩))
   go_roundg kj5
   case measure => have := HK1.out; have := HJ5.out; omega
   case rel => exact ⟨(wrap64 (t112 - 1)), (wrap64 (x6_1 - 1)), dq15, dq15, H', ⟨by have := HK1.out; have := HJ5.out; omega⟩, dq14⟩

/-! ### spec_l8Deep: function 61 -/
mutual
def spec_l8Deep.l0 : Nat → List (S49) → Int → Int → Int → Option (Int)
 | 0, _, _, _, _ => none
 | k + 1, x0, x1, x5, x6 => if 0 ≤ x1 then (if x1 < (x0.length : Int) then (if x6 < (((rd_T49 x0 x1).f2).length : Int) then (if 0 ≤ x6 then ((spec_l8Deep.f k x0 (rd ((rd_T49 x0 x1).f2) x6)).bind fun t116 => (spec_l8Deep.l0 k x0 x1 (mx x5 t116) (wrap64 (x6 + 1)))) else (none)) else (some (wrap64 (x5 + 1)))) else (none)) else (none)
def spec_l8Deep.f : Nat → List (S49) → Int → Option (Int)
 | 0, _, _ => none
 | k + 1, l0, a1 => spec_l8Deep.l0 k l0 a1 0 0
end
set_option maxHeartbeats 8000000 in
set_option maxRecDepth 100000 in
theorem spec_l8Deep.calls (k : Nat) : ∀ (A0 : Option Addr) (c0 : Nat) (l0 : List (S49)) (a1 : Int) (r : Int) (w : World) (hr0 : Kd.C k49 w A0 l0.length l0) (hc0 : l0.length ≤ c0) (h : spec_l8Deep.f k l0 a1 = some r),
  Calls Try.prog 61 #[.slice A0 l0.length c0, .int .i64 a1] w fun e w' => e = .returned (.int .i64 r) ∧ Below w.heap.size w w' := by
 induction k using Nat.strongRecOn with
 | _ k ih =>
 intro A0 c0 l0 a1 r w hr0 hc0 h
 cases k with
 | zero => exact absurd h (by simp [spec_l8Deep.f])
 | succ k =>
 simp only [spec_l8Deep.f] at h
 have HR0 := Aside0.mk hr0
 have HC0 := Aside0.mk hc0
 clear hr0 hc0
 have HB := Aside0.mk (Below.refl w.heap.size w)
 have H : (spec_l8Deep.l0 k l0 a1 0 0) = some r := h
 clear h
 have H' := Aside0.mk H
 clear H
 go_enter Try.func61, Try.ntmps61
 go_wp2
 go_loopg [5, 6] k (fun kq v5 v6 w' => ∃ (x5_1 : Int) (x6_1 : Int), v5 = .int .i64 x5_1 ∧ v6 = .int .i64 x6_1 ∧ Aside0 (spec_l8Deep.l0 kq l0 a1 x5_1 x6_1 = some r) ∧ Aside0 (kq ≤ k) ∧ Aside0 (Below w.heap.size w w'))
 case atStart => exact ⟨(0), (0), dq15, dq15, H', ⟨Nat.le_refl _⟩, ⟨dq17⟩⟩
 clear H'
 try clear p2
 obtain ⟨x5_1, x6_1, rfl, rfl, HA, HK1, HB⟩ := hrel
 cases gk with
 | zero => exact absurd HA.out (by simp [spec_l8Deep.l0])
 | succ k1 =>
  have H := HA.out
  clear HA
  simp only [spec_l8Deep.l0] at H
  by_cases c3 : 0 ≤ a1
  rotate_left
  ·rw [if_neg c3] at H
   exact absurd H dq24
  rw [if_pos c3] at H
  have c3b0 := decide_eq_true c3
  clear c3
  by_cases c4 : a1 < (l0.length : Int)
  rotate_left
  ·rw [if_neg c4] at H
   exact absurd H dq24
  rw [if_pos c4] at H
  have c4b0 := decide_eq_true c4
  clear c4
  by_cases c5 : x6_1 < (((rd_T49 l0 a1).f2).length : Int)
  rotate_left
  ·rw [if_neg c5] at H
   have c5b0 := decide_eq_false c5
   clear c5
   obtain rfl := Option.some.inj H
   have p113 : 0 ≤ (a1 : Int) := of_decide_eq_true dq22
   have q113 : a1 < (l0.length : Int) := of_decide_eq_true dq22
   obtain ⟨ad113, A113_2, c113_2, e113, hx113_0, hx113_1, hx113_2, hx113_3, hl113_2, hi113_2⟩ := at_T49 HR0.out a1 p113 q113
   cases e113
   replace hx113_0 := (HB.out.cell (World.block_lt_of_cell? w _ hx113_0)).trans hx113_0
   replace hx113_1 := (HB.out.cell (World.block_lt_of_cell? w _ hx113_1)).trans hx113_1
   replace hx113_2 := (HB.out.cell (World.block_lt_of_cell? w _ hx113_2)).trans hx113_2
   replace hx113_3 := (HB.out.cell (World.block_lt_of_cell? w _ hx113_3)).trans hx113_3
   have HR113_2 := Aside0.mk hi113_2
   have HC113_2 := Aside0.mk hl113_2
   clear hi113_2 hl113_2
   replace p113 := eq_true p113
   replace q113 := eq_true q113
   go_wp2
   go_ret
   exact ⟨dq19, dq17⟩
  rw [if_pos c5] at H
  have c5b0 := decide_eq_true c5
  clear c5
  by_cases c6 : 0 ≤ x6_1
  rotate_left
  ·rw [if_neg c6] at H
   exact absurd H dq24
  rw [if_pos c6] at H
  have c6b0 := decide_eq_true c6
  clear c6
  replace H := Option.bind_eq_some_iff.mp H
  obtain ⟨t116, A70, H⟩ := H
  replace H : (spec_l8Deep.l0 k1 l0 a1 (mx x5_1 t116) (wrap64 (x6_1 + 1))) = some r := H
  have A7 := Aside0.mk A70
  clear A70
  obtain ⟨ji8, hji8⟩ : ∃ j_ : Int, (mx x5_1 t116) = j_ := ⟨_, rfl⟩
  replace H : (spec_l8Deep.l0 k1 l0 a1 ji8 (wrap64 (x6_1 + 1))) = some r := by first | (rw [hji8] at H; exact H) | (simp only [hji8] at H ⊢; exact H)
  (try rw [hji8] at A7)
  have hji8_ : (if x5_1 < t116 then t116 else x5_1) = ji8 := hji8
  have H' := Aside0.mk H
  clear H
  have p113 : 0 ≤ (a1 : Int) := of_decide_eq_true dq22
  have q113 : a1 < (l0.length : Int) := of_decide_eq_true dq22
  obtain ⟨ad113, A113_2, c113_2, e113, hx113_0, hx113_1, hx113_2, hx113_3, hl113_2, hi113_2⟩ := at_T49 HR0.out a1 p113 q113
  cases e113
  replace hx113_0 := (HB.out.cell (World.block_lt_of_cell? w _ hx113_0)).trans hx113_0
  replace hx113_1 := (HB.out.cell (World.block_lt_of_cell? w _ hx113_1)).trans hx113_1
  replace hx113_2 := (HB.out.cell (World.block_lt_of_cell? w _ hx113_2)).trans hx113_2
  replace hx113_3 := (HB.out.cell (World.block_lt_of_cell? w _ hx113_3)).trans hx113_3
  have HR113_2 := Aside0.mk hi113_2
  have HC113_2 := Aside0.mk hl113_2
  clear hi113_2 hl113_2
  replace p113 := eq_true p113
  replace q113 := eq_true q113
  have p114 : 0 ≤ (a1 : Int) := of_decide_eq_true dq22
  have q114 : a1 < (l0.length : Int) := of_decide_eq_true dq22
  obtain ⟨ad114, A114_2, c114_2, e114, hx114_0, hx114_1, hx114_2, hx114_3, hl114_2, hi114_2⟩ := at_T49 HR0.out a1 p114 q114
  obtain rfl : ad113 = ad114 := (by injection e114)
  replace hx114_0 := (HB.out.cell (World.block_lt_of_cell? w _ hx114_0)).trans hx114_0
  replace hx114_1 := (HB.out.cell (World.block_lt_of_cell? w _ hx114_1)).trans hx114_1
  replace hx114_2 := (HB.out.cell (World.block_lt_of_cell? w _ hx114_2)).trans hx114_2
  replace hx114_3 := (HB.out.cell (World.block_lt_of_cell? w _ hx114_3)).trans hx114_3
  have HR114_2 := Aside0.mk hi114_2
  have HC114_2 := Aside0.mk hl114_2
  clear hi114_2 hl114_2
  replace p114 := eq_true p114
  replace q114 := eq_true q114
  have ea_ := Option.some.inj (hx113_2.symm.trans hx114_2)
  injection ea_ with ea_ en_ ec_
  subst ea_
  subst ec_
  clear en_
  have p115 : 0 ≤ (x6_1 : Int) := of_decide_eq_true dq22
  have q115 : x6_1 < (((rd_T49 l0 a1).f2).length : Int) := of_decide_eq_true dq22
  obtain ⟨ad115, e115, hx115_0⟩ := Kd.at_int HR114_2.out x6_1 p115 q115
  cases e115
  replace hx115_0 := (HB.out.cell (World.block_lt_of_cell? w _ hx115_0)).trans hx115_0
  replace p115 := eq_true p115
  replace q115 := eq_true q115
  go_wp2_with (first | ((with_reducible refine gate_callee (f := 61) rfl ?_); refine goesL_ (some 27) rfl rfl Try.func61 dq21 rfl #[.slice (some ad113) l0.length c0, .int .i64 (rd ((rd_T49 l0 a1).f2) x6_1)] rfl dq20 ?_; (with_reducible refine (ih k1 dq23 _ _ l0 (rd ((rd_T49 l0 a1).f2) x6_1) t116 _ ?side1 ?side2 A7.out).mono ?_); (case side1 => exact dq5); (case side2 => exact dq4); rintro e w9 ⟨rfl, hb⟩; refine ⟨_, rfl, ?_⟩; have n0_ := Aside0.mk (below_step dq17 hb); clear HB; have HB := n0_; clear n0_; (try clear hb); (try clear hb2); (try clear hk); (try clear hi)))
  go_roundg k1
  case measure => have := HK1.out; omega
  case rel => exact ⟨(ji8), (wrap64 (x6_1 + 1)), (by first | rfl | (simp; done) | (simp only [← hji8] <;> (first | rfl | simp)) | (simp [*]; done)), dq15, H', ⟨dq23⟩, ⟨dq17⟩⟩

/-! ### spec_ParticleOk: function 33 -/
mutual
def spec_ParticleOk.j0 : Nat → List (S49) → Bool → Option (Bool)
 | 0, _, _ => none
 | k + 1, x0, x14 => if x14 = true then (some false) else (spec_ParticleOk.l0 k x0 0)
def spec_ParticleOk.l0 : Nat → List (S49) → Int → Option (Bool)
 | 0, _, _ => none
 | k + 1, x0, x3 => if x3 < (x0.length : Int) then (if 0 ≤ x3 then ((spec_l1In.f ((rd_T49 x0 x3).f3) 0 3).bind fun t123 => (if t123 = true then (if ((rd_T49 x0 x3).f0) = 1 then ((spec_NameOk.f k ((rd_T49 x0 x3).f1)).bind fun t124 => (if t124 = true then (if (((rd_T49 x0 x3).f2).length : Int) > 0 then (some false) else (spec_ParticleOk.j2 k x0 x3 ((rd_T49 x0 x3).f0) ((rd_T49 x0 x3).f1) ((rd_T49 x0 x3).f2) ((rd_T49 x0 x3).f3))) else (some false))) else (if ((rd_T49 x0 x3).f0) = 4 then (if ((rd_T49 x0 x3).f1).toList = ([] : List UInt8) then (if (((rd_T49 x0 x3).f2).length : Int) > 0 then (some false) else (spec_ParticleOk.j2 k x0 x3 ((rd_T49 x0 x3).f0) ((rd_T49 x0 x3).f1) ((rd_T49 x0 x3).f2) ((rd_T49 x0 x3).f3))) else (some false)) else (if ((rd_T49 x0 x3).f0) = 2 then (if ((rd_T49 x0 x3).f1).toList = ([] : List UInt8) then (spec_ParticleOk.j2 k x0 x3 ((rd_T49 x0 x3).f0) ((rd_T49 x0 x3).f1) ((rd_T49 x0 x3).f2) ((rd_T49 x0 x3).f3)) else (some false)) else (if ((rd_T49 x0 x3).f0) = 3 then (if ((rd_T49 x0 x3).f1).toList = ([] : List UInt8) then (if (((rd_T49 x0 x3).f2).length : Int) < 2 then (some false) else (spec_ParticleOk.j2 k x0 x3 ((rd_T49 x0 x3).f0) ((rd_T49 x0 x3).f1) ((rd_T49 x0 x3).f2) ((rd_T49 x0 x3).f3))) else (some false)) else (some false))))) else (some false))) else (none)) else ((spec_l8Tree.f k x0 (wrap64 ((x0.length : Int) - 1))).bind fun t117 => (if t117 = 0 then (if 0 ≤ (wrap64 ((x0.length : Int) - 1)) then (if (wrap64 ((x0.length : Int) - 1)) < (x0.length : Int) then (if ((rd_T49 x0 (wrap64 ((x0.length : Int) - 1))).f0) = 1 then (some false) else (if ((rd_T49 x0 (wrap64 ((x0.length : Int) - 1))).f0) = 4 then (some false) else ((spec_l8Deep.f k x0 (wrap64 ((x0.length : Int) - 1))).bind fun t120 => (some (decide (t120 ≤ 10)))))) else (none)) else (none)) else (some false)))
def spec_ParticleOk.j2 : Nat → List (S49) → Int → Int → ByteArray → List Int → Int → Option (Bool)
 | 0, _, _, _, _, _, _ => none
 | k + 1, x0, x3, x123000, x123001, x123002, x123003 => spec_ParticleOk.l1 k x0 x3 0 x123000 x123001 x123002 x123003
def spec_ParticleOk.l1 : Nat → List (S49) → Int → Int → Int → ByteArray → List Int → Int → Option (Bool)
 | 0, _, _, _, _, _, _, _ => none
 | k + 1, x0, x3, x5, x123000, x123001, x123002, x123003 => if x5 < (x123002.length : Int) then (if 0 ≤ x5 then ((spec_l1In.f (rd x123002 x5) 0 (wrap64 (x3 - 1))).bind fun t126 => (if t126 = true then (spec_ParticleOk.l1 k x0 x3 (wrap64 (x5 + 1)) x123000 x123001 x123002 x123003) else (some false))) else (none)) else (spec_ParticleOk.l0 k x0 (wrap64 (x3 + 1)))
end
def spec_ParticleOk.f (k : Nat) (l0 : List (S49)) : Option (Bool) := if (l0.length : Int) < 1 then (spec_ParticleOk.j0 k l0 true) else (spec_ParticleOk.j0 k l0 (decide ((l0.length : Int) > 40)))
set_option maxHeartbeats 8000000 in
set_option maxRecDepth 100000 in
theorem spec_ParticleOk.calls (k : Nat) (A0 : Option Addr) (c0 : Nat) (l0 : List (S49)) (r : Bool) (w : World) (hr0 : Kd.C k49 w A0 l0.length l0) (hc0 : l0.length ≤ c0) (h : spec_ParticleOk.f k l0 = some r) :
  Calls Try.prog 33 #[.slice A0 l0.length c0] w fun e w' => e = .returned (.bool r) ∧ Below w.heap.size w w' := by
 have hu49 := Try.underlying49
 have HR0 := Aside0.mk hr0
 have HC0 := Aside0.mk hc0
 clear hr0 hc0
 have HB := Aside0.mk (Below.refl w.heap.size w)
 have H : (if (l0.length : Int) < 1 then (spec_ParticleOk.j0 k l0 true) else (spec_ParticleOk.j0 k l0 (decide ((l0.length : Int) > 40)))) = some r := h
 clear h
 have HC2 := Aside0.mk H
 clear H
 go_enter Try.func33, Try.ntmps33
 go_upto_region 1 with (fail)
 go_cut [14] (fun v14 wc => ∃ (kq : Nat) (x14_1 : Bool), v14 = .bool x14_1 ∧ Aside0 (spec_ParticleOk.j0 kq l0 x14_1 = some r) ∧ Aside0 (kq ≤ k) ∧ Aside0 (Below w.heap.size w wc))
 case first =>
  have H := HC2.out
  clear HC2
  by_cases c3 : (l0.length : Int) < 1
  ·rw [if_pos c3] at H
   have c3b0 := decide_eq_true c3
   have c3b1 : decide (l0.length < 1) = true := decide_eq_true dq25
   clear c3
   (first | rw [c3b0] | (simp only [i64_w, i32_w]; rw [c3b0]) | skip)
   have H' := Aside0.mk H
   clear H
   go_wp2
   go_meet
   case rel => exact ⟨_, (true), dq15, H', ⟨dq45⟩, ⟨dq17⟩⟩
  rw [if_neg c3] at H
  have c3b0 := decide_eq_false c3
  have c3b1 : decide (l0.length < 1) = false := decide_eq_false dq25
  clear c3
  (first | rw [c3b0] | (simp only [i64_w, i32_w]; rw [c3b0]) | skip)
  have H' := Aside0.mk H
  clear H
  go_wp2
  go_meet
  case rel => exact ⟨_, (decide ((l0.length : Int) > 40)), dq15, H', ⟨dq45⟩, ⟨dq17⟩⟩
 clear HC2
 obtain ⟨kq, x14_1, rfl, HA, HJ1, HB⟩ := hcut
 cases kq with
 | zero => exact absurd HA.out (by simp [spec_ParticleOk.j0])
 | succ kj1 =>
  have H := HA.out
  clear HA
  simp only [spec_ParticleOk.j0] at H
  by_cases c4 : x14_1 = true
  ·subst c4
   have H1 : (some false) = some r := by rw [if_pos rfl] at H; exact H
   clear H
   have H := H1
   clear H1
   obtain rfl := Option.some.inj H
   go_wp2
   go_ret
   exact ⟨dq19, dq17⟩
  replace c4 := Bool.eq_false_iff.mpr c4
  subst c4
  have H1 : (spec_ParticleOk.l0 kj1 l0 0) = some r := by rw [if_neg (show ¬ (false = true) by decide)] at H; exact H
  clear H
  have H := H1
  clear H1
  have H' := Aside0.mk H
  clear H
  go_wp2
  go_loopg [3] kj1 (fun kq v3 w' => ∃ (x3_2 : Int), v3 = .int .i64 x3_2 ∧ Aside0 (spec_ParticleOk.l0 kq l0 x3_2 = some r) ∧ Aside0 (kq ≤ kj1) ∧ Aside0 (Below w.heap.size w w'))
  case atStart => exact ⟨(0), dq15, H', ⟨Nat.le_refl _⟩, ⟨dq17⟩⟩
  clear H'
  obtain ⟨x3_2, rfl, HA, HK2, HB⟩ := hrel
  cases gk with
  | zero => exact absurd HA.out (by simp [spec_ParticleOk.l0])
  | succ k2 =>
   have H := HA.out
   clear HA
   simp only [spec_ParticleOk.l0] at H
   by_cases c5 : x3_2 < (l0.length : Int)
   rotate_left
   ·rw [if_neg c5] at H
    have c5b0 := decide_eq_false c5
    clear c5
    replace H := Option.bind_eq_some_iff.mp H
    obtain ⟨t117, A440, H⟩ := H
    replace H : (if t117 = 0 then (if 0 ≤ (wrap64 ((l0.length : Int) - 1)) then (if (wrap64 ((l0.length : Int) - 1)) < (l0.length : Int) then (if ((rd_T49 l0 (wrap64 ((l0.length : Int) - 1))).f0) = 1 then (some false) else (if ((rd_T49 l0 (wrap64 ((l0.length : Int) - 1))).f0) = 4 then (some false) else ((spec_l8Deep.f k2 l0 (wrap64 ((l0.length : Int) - 1))).bind fun t120 => (some (decide (t120 ≤ 10)))))) else (none)) else (none)) else (some false)) = some r := H
    have A44 := Aside0.mk A440
    clear A440
    by_cases c45 : t117 = 0
    rotate_left
    ·rw [if_neg c45] at H
     have c45b0 := beq_eq_false_iff_ne.mpr c45
     have c45b1 := bne_iff_ne.mpr c45
     obtain rfl := Option.some.inj H
     go_wp2_with (first | ((with_reducible refine gate_callee (f := 60) rfl ?_); refine goesL_ (some 91) rfl rfl Try.func60 dq21 rfl #[.slice A0 l0.length c0, .int .i64 (wrap64 ((l0.length : Int) - 1))] rfl dq20 ?_; (with_reducible refine (spec_l8Tree.calls k2 _ _ l0 (wrap64 ((l0.length : Int) - 1)) t117 _ ?side1 ?side2 A44.out).mono ?_); (case side1 => exact dq5); (case side2 => exact dq4); rintro e w' ⟨rfl, ⟨nd, rfl⟩⟩; refine ⟨_, rfl, ?_⟩))
     go_ret
     exact ⟨dq19, dq17⟩
    rw [if_pos c45] at H
    have c45b0 := beq_iff_eq.mpr c45
    have c45b1 := bne_eq_false_iff_eq.mpr c45
    clear c45
    obtain ⟨ji46, hji46⟩ : ∃ j_ : Int, (wrap64 ((l0.length : Int) - 1)) = j_ := ⟨_, rfl⟩
    replace H : (if 0 ≤ (ji46) then (if (ji46) < (l0.length : Int) then (if ((rd_T49 l0 (ji46)).f0) = 1 then (some false) else (if ((rd_T49 l0 (ji46)).f0) = 4 then (some false) else ((spec_l8Deep.f k2 l0 (ji46)).bind fun t120 => (some (decide (t120 ≤ 10)))))) else (none)) else (none)) = some r := by first | (rw [hji46] at H; exact H) | (simp only [hji46] at H ⊢; exact H)
    (try rw [hji46] at A44)
    have hji46w : (IntKind.i64.wrap ((l0.length : Int) - 1)) = ji46 := (i64_w _).trans hji46
    by_cases c47 : 0 ≤ (ji46)
    rotate_left
    ·rw [if_neg c47] at H
     exact absurd H dq24
    rw [if_pos c47] at H
    have c47b0 := decide_eq_true c47
    clear c47
    by_cases c48 : (ji46) < (l0.length : Int)
    rotate_left
    ·rw [if_neg c48] at H
     exact absurd H dq24
    rw [if_pos c48] at H
    have c48b0 := decide_eq_true c48
    clear c48
    by_cases c49 : ((rd_T49 l0 (ji46)).f0) = 1
    ·rw [if_pos c49] at H
     have c49b0 := beq_iff_eq.mpr c49
     have c49b1 := bne_eq_false_iff_eq.mpr c49
     clear c49
     obtain rfl := Option.some.inj H
     go_wp2_with (first | ((with_reducible refine gate_callee (f := 60) rfl ?_); refine goesL_ (some 91) rfl rfl Try.func60 dq21 rfl #[.slice A0 l0.length c0, .int .i64 ji46] rfl dq50 ?_; (with_reducible refine (spec_l8Tree.calls k2 _ _ l0 ji46 t117 _ ?side1 ?side2 A44.out).mono ?_); (case side1 => exact dq5); (case side2 => exact dq4); rintro e w' ⟨rfl, ⟨nd, rfl⟩⟩; refine ⟨_, rfl, ?_⟩; have p118 : 0 ≤ ((ji46) : Int) := of_decide_eq_true dq22; have q118 : (ji46) < (l0.length : Int) := of_decide_eq_true dq22; obtain ⟨ad118, A118_2, c118_2, e118, hx118_0, hx118_1, hx118_2, hx118_3, hl118_2, hi118_2⟩ := at_T49 HR0.out (ji46) p118 q118; cases e118; replace hx118_0 := (HB.out.cell (World.block_lt_of_cell? w _ hx118_0)).trans hx118_0; replace hx118_1 := (HB.out.cell (World.block_lt_of_cell? w _ hx118_1)).trans hx118_1; replace hx118_2 := (HB.out.cell (World.block_lt_of_cell? w _ hx118_2)).trans hx118_2; replace hx118_3 := (HB.out.cell (World.block_lt_of_cell? w _ hx118_3)).trans hx118_3; have HR118_2 := Aside0.mk hi118_2; have HC118_2 := Aside0.mk hl118_2; clear hi118_2 hl118_2; replace p118 := eq_true p118; replace q118 := eq_true q118))
     go_ret
     exact ⟨dq51, dq17⟩
    rw [if_neg c49] at H
    have c49b0 := beq_eq_false_iff_ne.mpr c49
    have c49b1 := bne_iff_ne.mpr c49
    by_cases c50 : ((rd_T49 l0 (ji46)).f0) = 4
    ·rw [if_pos c50] at H
     have c50b0 := beq_iff_eq.mpr c50
     have c50b1 := bne_eq_false_iff_eq.mpr c50
     clear c50
     obtain rfl := Option.some.inj H
     go_wp2_with (first | ((with_reducible refine gate_callee (f := 60) rfl ?_); refine goesL_ (some 91) rfl rfl Try.func60 dq21 rfl #[.slice A0 l0.length c0, .int .i64 ji46] rfl dq50 ?_; (with_reducible refine (spec_l8Tree.calls k2 _ _ l0 ji46 t117 _ ?side1 ?side2 A44.out).mono ?_); (case side1 => exact dq5); (case side2 => exact dq4); rintro e w' ⟨rfl, ⟨nd, rfl⟩⟩; refine ⟨_, rfl, ?_⟩; have p118 : 0 ≤ ((ji46) : Int) := of_decide_eq_true dq22; have q118 : (ji46) < (l0.length : Int) := of_decide_eq_true dq22; obtain ⟨ad118, A118_2, c118_2, e118, hx118_0, hx118_1, hx118_2, hx118_3, hl118_2, hi118_2⟩ := at_T49 HR0.out (ji46) p118 q118; cases e118; replace hx118_0 := (HB.out.cell (World.block_lt_of_cell? w _ hx118_0)).trans hx118_0; replace hx118_1 := (HB.out.cell (World.block_lt_of_cell? w _ hx118_1)).trans hx118_1; replace hx118_2 := (HB.out.cell (World.block_lt_of_cell? w _ hx118_2)).trans hx118_2; replace hx118_3 := (HB.out.cell (World.block_lt_of_cell? w _ hx118_3)).trans hx118_3; have HR118_2 := Aside0.mk hi118_2; have HC118_2 := Aside0.mk hl118_2; clear hi118_2 hl118_2; replace p118 := eq_true p118; replace q118 := eq_true q118; have p119 : 0 ≤ ((ji46) : Int) := of_decide_eq_true dq22; have q119 : (ji46) < (l0.length : Int) := of_decide_eq_true dq22; obtain ⟨ad119, A119_2, c119_2, e119, hx119_0, hx119_1, hx119_2, hx119_3, hl119_2, hi119_2⟩ := at_T49 HR0.out (ji46) p119 q119; obtain rfl : ad118 = ad119 := (by injection e119); replace hx119_0 := (HB.out.cell (World.block_lt_of_cell? w _ hx119_0)).trans hx119_0; replace hx119_1 := (HB.out.cell (World.block_lt_of_cell? w _ hx119_1)).trans hx119_1; replace hx119_2 := (HB.out.cell (World.block_lt_of_cell? w _ hx119_2)).trans hx119_2; replace hx119_3 := (HB.out.cell (World.block_lt_of_cell? w _ hx119_3)).trans hx119_3; have HR119_2 := Aside0.mk hi119_2; have HC119_2 := Aside0.mk hl119_2; clear hi119_2 hl119_2; replace p119 := eq_true p119; replace q119 := eq_true q119; have ea_ := Option.some.inj (hx118_2.symm.trans hx119_2); injection ea_ with ea_ en_ ec_; subst ea_; subst ec_; clear en_))
     go_ret
     exact ⟨dq51, dq17⟩
    rw [if_neg c50] at H
    have c50b0 := beq_eq_false_iff_ne.mpr c50
    have c50b1 := bne_iff_ne.mpr c50
    replace H := Option.bind_eq_some_iff.mp H
    obtain ⟨t120, A510, H⟩ := H
    replace H : (some (decide (t120 ≤ 10))) = some r := H
    have A51 := Aside0.mk A510
    clear A510
    obtain rfl := Option.some.inj H
    go_wp2_with (first | ((with_reducible refine gate_callee (f := 60) rfl ?_); refine goesL_ (some 91) rfl rfl Try.func60 dq21 rfl #[.slice A0 l0.length c0, .int .i64 ji46] rfl dq50 ?_; (with_reducible refine (spec_l8Tree.calls k2 _ _ l0 ji46 t117 _ ?side1 ?side2 A44.out).mono ?_); (case side1 => exact dq5); (case side2 => exact dq4); rintro e w' ⟨rfl, ⟨nd, rfl⟩⟩; refine ⟨_, rfl, ?_⟩; have p118 : 0 ≤ ((ji46) : Int) := of_decide_eq_true dq22; have q118 : (ji46) < (l0.length : Int) := of_decide_eq_true dq22; obtain ⟨ad118, A118_2, c118_2, e118, hx118_0, hx118_1, hx118_2, hx118_3, hl118_2, hi118_2⟩ := at_T49 HR0.out (ji46) p118 q118; cases e118; replace hx118_0 := (HB.out.cell (World.block_lt_of_cell? w _ hx118_0)).trans hx118_0; replace hx118_1 := (HB.out.cell (World.block_lt_of_cell? w _ hx118_1)).trans hx118_1; replace hx118_2 := (HB.out.cell (World.block_lt_of_cell? w _ hx118_2)).trans hx118_2; replace hx118_3 := (HB.out.cell (World.block_lt_of_cell? w _ hx118_3)).trans hx118_3; have HR118_2 := Aside0.mk hi118_2; have HC118_2 := Aside0.mk hl118_2; clear hi118_2 hl118_2; replace p118 := eq_true p118; replace q118 := eq_true q118; have p119 : 0 ≤ ((ji46) : Int) := of_decide_eq_true dq22; have q119 : (ji46) < (l0.length : Int) := of_decide_eq_true dq22; obtain ⟨ad119, A119_2, c119_2, e119, hx119_0, hx119_1, hx119_2, hx119_3, hl119_2, hi119_2⟩ := at_T49 HR0.out (ji46) p119 q119; obtain rfl : ad118 = ad119 := (by injection e119); replace hx119_0 := (HB.out.cell (World.block_lt_of_cell? w _ hx119_0)).trans hx119_0; replace hx119_1 := (HB.out.cell (World.block_lt_of_cell? w _ hx119_1)).trans hx119_1; replace hx119_2 := (HB.out.cell (World.block_lt_of_cell? w _ hx119_2)).trans hx119_2; replace hx119_3 := (HB.out.cell (World.block_lt_of_cell? w _ hx119_3)).trans hx119_3; have HR119_2 := Aside0.mk hi119_2; have HC119_2 := Aside0.mk hl119_2; clear hi119_2 hl119_2; replace p119 := eq_true p119; replace q119 := eq_true q119; have ea_ := Option.some.inj (hx118_2.symm.trans hx119_2); injection ea_ with ea_ en_ ec_; subst ea_; subst ec_; clear en_) | (go_at_call 61; (with_reducible refine (spec_l8Deep.calls k2 _ _ l0 ji46 t120 _ ?side1 ?side2 A51.out).mono ?_); (case side1 => repeat (first | exact (Kd.C_below HR0.out dq17) | (with_reducible refine Kd.C_alloc ?_ _) | (with_reducible refine Kd.C_drewN ?_ _) | (with_reducible refine Kd.C_drew ?_))); (case side2 => exact dq4); rintro e w52 ⟨rfl, hb⟩; have n0_ := Aside0.mk (below_step dq17 hb); clear HB; have HB := n0_; clear n0_; (try clear hb); (try clear hb2); (try clear hk); (try clear hi)))
    go_ret
    exact ⟨dq51, dq17⟩
   rw [if_pos c5] at H
   have c5b0 := decide_eq_true c5
   clear c5
   by_cases c6 : 0 ≤ x3_2
   rotate_left
   ·rw [if_neg c6] at H
    exact absurd H dq24
   rw [if_pos c6] at H
   have c6b0 := decide_eq_true c6
   clear c6
   replace H := Option.bind_eq_some_iff.mp H
   obtain ⟨t123, A70, H⟩ := H
   replace H : (if t123 = true then (if ((rd_T49 l0 x3_2).f0) = 1 then ((spec_NameOk.f k2 ((rd_T49 l0 x3_2).f1)).bind fun t124 => (if t124 = true then (if (((rd_T49 l0 x3_2).f2).length : Int) > 0 then (some false) else (spec_ParticleOk.j2 k2 l0 x3_2 ((rd_T49 l0 x3_2).f0) ((rd_T49 l0 x3_2).f1) ((rd_T49 l0 x3_2).f2) ((rd_T49 l0 x3_2).f3))) else (some false))) else (if ((rd_T49 l0 x3_2).f0) = 4 then (if ((rd_T49 l0 x3_2).f1).toList = ([] : List UInt8) then (if (((rd_T49 l0 x3_2).f2).length : Int) > 0 then (some false) else (spec_ParticleOk.j2 k2 l0 x3_2 ((rd_T49 l0 x3_2).f0) ((rd_T49 l0 x3_2).f1) ((rd_T49 l0 x3_2).f2) ((rd_T49 l0 x3_2).f3))) else (some false)) else (if ((rd_T49 l0 x3_2).f0) = 2 then (if ((rd_T49 l0 x3_2).f1).toList = ([] : List UInt8) then (spec_ParticleOk.j2 k2 l0 x3_2 ((rd_T49 l0 x3_2).f0) ((rd_T49 l0 x3_2).f1) ((rd_T49 l0 x3_2).f2) ((rd_T49 l0 x3_2).f3)) else (some false)) else (if ((rd_T49 l0 x3_2).f0) = 3 then (if ((rd_T49 l0 x3_2).f1).toList = ([] : List UInt8) then (if (((rd_T49 l0 x3_2).f2).length : Int) < 2 then (some false) else (spec_ParticleOk.j2 k2 l0 x3_2 ((rd_T49 l0 x3_2).f0) ((rd_T49 l0 x3_2).f1) ((rd_T49 l0 x3_2).f2) ((rd_T49 l0 x3_2).f3))) else (some false)) else (some false))))) else (some false)) = some r := H
   have A7 := Aside0.mk A70
   clear A70
   by_cases c8 : t123 = true
   rotate_left
   ·replace c8 := Bool.eq_false_iff.mpr c8
    subst c8
    have H1 : (some false) = some r := by rw [if_neg (show ¬ (false = true) by decide)] at H; exact H
    clear H
    have H := H1
    clear H1
    obtain rfl := Option.some.inj H
    have p121 : 0 ≤ (x3_2 : Int) := of_decide_eq_true dq22
    have q121 : x3_2 < (l0.length : Int) := of_decide_eq_true dq22
    obtain ⟨ad121, A121_2, c121_2, e121, hx121_0, hx121_1, hx121_2, hx121_3, hl121_2, hi121_2⟩ := at_T49 HR0.out x3_2 p121 q121
    cases e121
    replace hx121_0 := (HB.out.cell (World.block_lt_of_cell? w _ hx121_0)).trans hx121_0
    replace hx121_1 := (HB.out.cell (World.block_lt_of_cell? w _ hx121_1)).trans hx121_1
    replace hx121_2 := (HB.out.cell (World.block_lt_of_cell? w _ hx121_2)).trans hx121_2
    replace hx121_3 := (HB.out.cell (World.block_lt_of_cell? w _ hx121_3)).trans hx121_3
    have HR121_2 := Aside0.mk hi121_2
    have HC121_2 := Aside0.mk hl121_2
    clear hi121_2 hl121_2
    replace p121 := eq_true p121
    replace q121 := eq_true q121
    go_wp2_with (first | ((with_reducible refine gate_dst (N := 4) rfl ?_); (try (refine gate_guard (by rfl) ?_; dsimp only)); refine box_event ?hg (N := 4) ?hd (cs := #[.int .i64 0, .string (⟨#[]⟩ : ByteArray), .slice none 0 0, .int .i64 0]) (t := 49) ?hr ?_; (case hd => rfl); (case hg => rfl); (case hr => exact dq0); intro gb122 hg w42 hbox hb; have n0_ := Aside0.mk (below_step dq17 hb); have n1_ := Aside0.mk (hbox); have n2_ := Aside0.mk ((dq16 : w.heap.size ≤ gb122)); have n3_ := Aside0.mk ((dq16 : w.heap.size ≤ gb122)); clear HB; have HB := n0_; have BK122 := n1_; have GW122 := n2_; have GE122 := n3_; clear n0_ n1_ n2_ n3_; clear hb hbox hg; obtain ⟨⟨hcz43_0, hcz43_1, hcz43_2, hcz43_3⟩, hfz43_0, hfz43_1, hfz43_2, hfz43_3⟩ := blkC4 BK122.out) | ((with_reducible refine gate_callee (f := 58) rfl ?_); refine goesL_ (some 27) rfl rfl Try.func58 dq21 rfl #[.int .i64 ((rd_T49 l0 x3_2).f3), .int .i64 0, .int .i64 3] rfl dq20 ?_; (with_reducible refine (spec_l1In.calls ((rd_T49 l0 x3_2).f3) 0 3 false _ A7.out).mono ?_); rintro e w' ⟨rfl, ⟨nd, rfl⟩⟩; refine ⟨_, rfl, ?_⟩))
    go_ret
    exact ⟨dq19, dq47⟩
   subst c8
   have H1 : (if ((rd_T49 l0 x3_2).f0) = 1 then ((spec_NameOk.f k2 ((rd_T49 l0 x3_2).f1)).bind fun t124 => (if t124 = true then (if (((rd_T49 l0 x3_2).f2).length : Int) > 0 then (some false) else (spec_ParticleOk.j2 k2 l0 x3_2 ((rd_T49 l0 x3_2).f0) ((rd_T49 l0 x3_2).f1) ((rd_T49 l0 x3_2).f2) ((rd_T49 l0 x3_2).f3))) else (some false))) else (if ((rd_T49 l0 x3_2).f0) = 4 then (if ((rd_T49 l0 x3_2).f1).toList = ([] : List UInt8) then (if (((rd_T49 l0 x3_2).f2).length : Int) > 0 then (some false) else (spec_ParticleOk.j2 k2 l0 x3_2 ((rd_T49 l0 x3_2).f0) ((rd_T49 l0 x3_2).f1) ((rd_T49 l0 x3_2).f2) ((rd_T49 l0 x3_2).f3))) else (some false)) else (if ((rd_T49 l0 x3_2).f0) = 2 then (if ((rd_T49 l0 x3_2).f1).toList = ([] : List UInt8) then (spec_ParticleOk.j2 k2 l0 x3_2 ((rd_T49 l0 x3_2).f0) ((rd_T49 l0 x3_2).f1) ((rd_T49 l0 x3_2).f2) ((rd_T49 l0 x3_2).f3)) else (some false)) else (if ((rd_T49 l0 x3_2).f0) = 3 then (if ((rd_T49 l0 x3_2).f1).toList = ([] : List UInt8) then (if (((rd_T49 l0 x3_2).f2).length : Int) < 2 then (some false) else (spec_ParticleOk.j2 k2 l0 x3_2 ((rd_T49 l0 x3_2).f0) ((rd_T49 l0 x3_2).f1) ((rd_T49 l0 x3_2).f2) ((rd_T49 l0 x3_2).f3))) else (some false)) else (some false))))) = some r := by rw [if_pos rfl] at H; exact H
   clear H
   have H := H1
   clear H1
   have HC9 := Aside0.mk H
   clear H
   have p121 : 0 ≤ (x3_2 : Int) := of_decide_eq_true dq22
   have q121 : x3_2 < (l0.length : Int) := of_decide_eq_true dq22
   obtain ⟨ad121, A121_2, c121_2, e121, hx121_0, hx121_1, hx121_2, hx121_3, hl121_2, hi121_2⟩ := at_T49 HR0.out x3_2 p121 q121
   cases e121
   replace hx121_0 := (HB.out.cell (World.block_lt_of_cell? w _ hx121_0)).trans hx121_0
   replace hx121_1 := (HB.out.cell (World.block_lt_of_cell? w _ hx121_1)).trans hx121_1
   replace hx121_2 := (HB.out.cell (World.block_lt_of_cell? w _ hx121_2)).trans hx121_2
   replace hx121_3 := (HB.out.cell (World.block_lt_of_cell? w _ hx121_3)).trans hx121_3
   have HR121_2 := Aside0.mk hi121_2
   have HC121_2 := Aside0.mk hl121_2
   clear hi121_2 hl121_2
   replace p121 := eq_true p121
   replace q121 := eq_true q121
   go_upto_block 2 with (first | ((with_reducible refine gate_dst (N := 4) rfl ?_); (try (refine gate_guard (by rfl) ?_; dsimp only)); refine box_event ?hg (N := 4) ?hd (cs := #[.int .i64 0, .string (⟨#[]⟩ : ByteArray), .slice none 0 0, .int .i64 0]) (t := 49) ?hr ?_; (case hd => rfl); (case hg => rfl); (case hr => exact dq0); intro gb122 hg w10 hbox hb; have n0_ := Aside0.mk (below_step dq17 hb); have n1_ := Aside0.mk (hbox); have n2_ := Aside0.mk ((dq16 : w.heap.size ≤ gb122)); have n3_ := Aside0.mk ((dq16 : w.heap.size ≤ gb122)); clear HB; have HB := n0_; have BK122 := n1_; have GW122 := n2_; have GE122 := n3_; clear n0_ n1_ n2_ n3_; clear hb hbox hg; obtain ⟨⟨hcz11_0, hcz11_1, hcz11_2, hcz11_3⟩, hfz11_0, hfz11_1, hfz11_2, hfz11_3⟩ := blkC4 BK122.out) | ((with_reducible refine gate_callee (f := 58) rfl ?_); refine goesL_ (some 27) rfl rfl Try.func58 dq21 rfl #[.int .i64 ((rd_T49 l0 x3_2).f3), .int .i64 0, .int .i64 3] rfl dq20 ?_; (with_reducible refine (spec_l1In.calls ((rd_T49 l0 x3_2).f3) 0 3 true _ A7.out).mono ?_); rintro e w' ⟨rfl, ⟨nd, rfl⟩⟩; refine ⟨_, rfl, ?_⟩))
   (try simp only [Act.put, List.setIfInBounds_toArray, List.set_cons_zero, List.set_cons_succ])
   go_cut [] (fun wc => ∃ (kq : Nat), Aside0 (spec_ParticleOk.j2 kq l0 x3_2 ((rd_T49 l0 x3_2).f0) ((rd_T49 l0 x3_2).f1) ((rd_T49 l0 x3_2).f2) ((rd_T49 l0 x3_2).f3) = some r) ∧ Aside0 (kq ≤ k2) ∧ Aside0 (wc.heap[gb122]? = some (.cells #[.int .i64 ((rd_T49 l0 x3_2).f0), .string ((rd_T49 l0 x3_2).f1), (.slice A121_2 ((rd_T49 l0 x3_2).f2).length c121_2), .int .i64 ((rd_T49 l0 x3_2).f3)] 49 (0, 0))) ∧ Aside0 (Below w.heap.size w wc))
   case rest =>
    clear HC9
    try clear c5b0
    try clear c6b0
    try clear hcz11_0
    try clear hcz11_1
    try clear hcz11_2
    try clear hcz11_3
    try clear hfz11_0
    try clear hfz11_1
    try clear hfz11_2
    try clear hfz11_3
    try clear hx121_0
    try clear hx121_1
    try clear hx121_2
    try clear hx121_3
    try clear p121
    try clear q121
    obtain ⟨kq, HA, HJ8, BK122, HB⟩ := hcut
    cases kq with
    | zero => exact absurd HA.out (by simp [spec_ParticleOk.j2])
    | succ kj8 =>
     have H := HA.out
     clear HA
     simp only [spec_ParticleOk.j2] at H
     have H' := Aside0.mk H
     clear H
     go_wp2
     go_loopg [5] kj8 (fun kq v5 w' => ∃ (x5_4 : Int), v5 = .int .i64 x5_4 ∧ Aside0 (spec_ParticleOk.l1 kq l0 x3_2 x5_4 ((rd_T49 l0 x3_2).f0) ((rd_T49 l0 x3_2).f1) ((rd_T49 l0 x3_2).f2) ((rd_T49 l0 x3_2).f3) = some r) ∧ Aside0 (kq ≤ kj8) ∧ Aside0 (w'.heap[gb122]? = some (.cells #[.int .i64 ((rd_T49 l0 x3_2).f0), .string ((rd_T49 l0 x3_2).f1), (.slice A121_2 ((rd_T49 l0 x3_2).f2).length c121_2), .int .i64 ((rd_T49 l0 x3_2).f3)] 49 (0, 0))) ∧ Aside0 (Below w.heap.size w w'))
     case atStart => exact ⟨(0), dq15, H', ⟨Nat.le_refl _⟩, ⟨by refine blk_up ?_; exact BK122.out⟩, ⟨dq47⟩⟩
     clear H'
     obtain ⟨x5_4, rfl, HA, HK4, BK122, HB⟩ := hrel
     cases gk with
     | zero => exact absurd HA.out (by simp [spec_ParticleOk.l1])
     | succ k4 =>
      have H := HA.out
      clear HA
      simp only [spec_ParticleOk.l1] at H
      by_cases c35 : x5_4 < (((rd_T49 l0 x3_2).f2).length : Int)
      rotate_left
      ·rw [if_neg c35] at H
       have c35b0 := decide_eq_false c35
       clear c35
       have H' := Aside0.mk H
       clear H
       obtain ⟨⟨hcz41_0, hcz41_1, hcz41_2, hcz41_3⟩, hfz41_0, hfz41_1, hfz41_2, hfz41_3⟩ := blkC4 BK122.out
       go_wp2
       go_roundg k4
       case measure => have := HJ1.out; have := HK2.out; have := HJ8.out; have := HK4.out; omega
       case rel => exact ⟨(wrap64 (x3_2 + 1)), dq15, H', ⟨by have := HJ1.out; have := HK2.out; have := HJ8.out; have := HK4.out; omega⟩, ⟨dq47⟩⟩
      rw [if_pos c35] at H
      have c35b0 := decide_eq_true c35
      clear c35
      by_cases c36 : 0 ≤ x5_4
      rotate_left
      ·rw [if_neg c36] at H
       exact absurd H dq24
      rw [if_pos c36] at H
      have c36b0 := decide_eq_true c36
      clear c36
      replace H := Option.bind_eq_some_iff.mp H
      obtain ⟨t126, A370, H⟩ := H
      replace H : (if t126 = true then (spec_ParticleOk.l1 k4 l0 x3_2 (wrap64 (x5_4 + 1)) ((rd_T49 l0 x3_2).f0) ((rd_T49 l0 x3_2).f1) ((rd_T49 l0 x3_2).f2) ((rd_T49 l0 x3_2).f3)) else (some false)) = some r := H
      have A37 := Aside0.mk A370
      clear A370
      by_cases c38 : t126 = true
      rotate_left
      ·replace c38 := Bool.eq_false_iff.mpr c38
       subst c38
       have H1 : (some false) = some r := by rw [if_neg (show ¬ (false = true) by decide)] at H; exact H
       clear H
       have H := H1
       clear H1
       obtain rfl := Option.some.inj H
       obtain ⟨⟨hcz40_0, hcz40_1, hcz40_2, hcz40_3⟩, hfz40_0, hfz40_1, hfz40_2, hfz40_3⟩ := blkC4 BK122.out
       have p125 : 0 ≤ (x5_4 : Int) := of_decide_eq_true dq22
       have q125 : x5_4 < (((rd_T49 l0 x3_2).f2).length : Int) := of_decide_eq_true dq22
       obtain ⟨ad125, e125, hx125_0⟩ := Kd.at_int HR121_2.out x5_4 p125 q125
       cases e125
       replace hx125_0 := (HB.out.cell (World.block_lt_of_cell? w _ hx125_0)).trans hx125_0
       replace p125 := eq_true p125
       replace q125 := eq_true q125
       go_wp2_with (first | ((with_reducible refine gate_callee (f := 58) rfl ?_); refine goesL_ (some 84) rfl rfl Try.func58 dq21 rfl #[.int .i64 (rd ((rd_T49 l0 x3_2).f2) x5_4), .int .i64 0, .int .i64 (wrap64 (x3_2 - 1))] rfl dq20 ?_; (with_reducible refine (spec_l1In.calls (rd ((rd_T49 l0 x3_2).f2) x5_4) 0 (wrap64 (x3_2 - 1)) false _ A37.out).mono ?_); rintro e w' ⟨rfl, ⟨nd, rfl⟩⟩; refine ⟨_, rfl, ?_⟩))
       go_ret
       exact ⟨dq19, dq47⟩
      subst c38
      have H1 : (spec_ParticleOk.l1 k4 l0 x3_2 (wrap64 (x5_4 + 1)) ((rd_T49 l0 x3_2).f0) ((rd_T49 l0 x3_2).f1) ((rd_T49 l0 x3_2).f2) ((rd_T49 l0 x3_2).f3)) = some r := by rw [if_pos rfl] at H; exact H
      clear H
      have H := H1
      clear H1
      have H' := Aside0.mk H
      clear H
      obtain ⟨⟨hcz39_0, hcz39_1, hcz39_2, hcz39_3⟩, hfz39_0, hfz39_1, hfz39_2, hfz39_3⟩ := blkC4 BK122.out
      have p125 : 0 ≤ (x5_4 : Int) := of_decide_eq_true dq22
      have q125 : x5_4 < (((rd_T49 l0 x3_2).f2).length : Int) := of_decide_eq_true dq22
      obtain ⟨ad125, e125, hx125_0⟩ := Kd.at_int HR121_2.out x5_4 p125 q125
      cases e125
      replace hx125_0 := (HB.out.cell (World.block_lt_of_cell? w _ hx125_0)).trans hx125_0
      replace p125 := eq_true p125
      replace q125 := eq_true q125
      go_wp2_with (first | ((with_reducible refine gate_callee (f := 58) rfl ?_); refine goesL_ (some 84) rfl rfl Try.func58 dq21 rfl #[.int .i64 (rd ((rd_T49 l0 x3_2).f2) x5_4), .int .i64 0, .int .i64 (wrap64 (x3_2 - 1))] rfl dq20 ?_; (with_reducible refine (spec_l1In.calls (rd ((rd_T49 l0 x3_2).f2) x5_4) 0 (wrap64 (x3_2 - 1)) true _ A37.out).mono ?_); rintro e w' ⟨rfl, ⟨nd, rfl⟩⟩; refine ⟨_, rfl, ?_⟩))
      go_roundg k4
      case measure => have := HJ1.out; have := HK2.out; have := HJ8.out; have := HK4.out; omega
      case rel => exact ⟨(wrap64 (x5_4 + 1)), dq15, H', ⟨by have := HJ1.out; have := HK2.out; have := HJ8.out; have := HK4.out; omega⟩, ⟨by refine blk_up ?_; exact BK122.out⟩, ⟨dq47⟩⟩
   have H := HC9.out
   clear HC9
   by_cases c12 : ((rd_T49 l0 x3_2).f0) = 1
   ·rw [if_pos c12] at H
    have c12b0 := beq_iff_eq.mpr c12
    have c12b1 := bne_eq_false_iff_eq.mpr c12
    clear c12
    (first | rw [c12b0] | (simp only [i64_w, i32_w]; rw [c12b0]) | skip)
    replace H := Option.bind_eq_some_iff.mp H
    obtain ⟨t124, A130, H⟩ := H
    replace H : (if t124 = true then (if (((rd_T49 l0 x3_2).f2).length : Int) > 0 then (some false) else (spec_ParticleOk.j2 k2 l0 x3_2 ((rd_T49 l0 x3_2).f0) ((rd_T49 l0 x3_2).f1) ((rd_T49 l0 x3_2).f2) ((rd_T49 l0 x3_2).f3))) else (some false)) = some r := H
    have A13 := Aside0.mk A130
    clear A130
    by_cases c14 : t124 = true
    rotate_left
    ·replace c14 := Bool.eq_false_iff.mpr c14
     subst c14
     have H1 : (some false) = some r := by rw [if_neg (show ¬ (false = true) by decide)] at H; exact H
     clear H
     have H := H1
     clear H1
     obtain rfl := Option.some.inj H
     obtain ⟨⟨hcz18_0, hcz18_1, hcz18_2, hcz18_3⟩, hfz18_0, hfz18_1, hfz18_2, hfz18_3⟩ := blkC4 BK122.out
     go_wp2_with (first | ((with_reducible refine gate_callee (f := 59) rfl ?_); refine goesL_ (some 35) rfl rfl Try.func59 dq21 rfl #[.string ((rd_T49 l0 x3_2).f1)] rfl dq20 ?_; (with_reducible refine (spec_NameOk.calls k2 ((rd_T49 l0 x3_2).f1) false _ A13.out).mono ?_); rintro e w' ⟨rfl, ⟨nd, rfl⟩⟩; refine ⟨_, rfl, ?_⟩))
     go_ret
     exact ⟨dq19, dq47⟩
    subst c14
    have H1 : (if (((rd_T49 l0 x3_2).f2).length : Int) > 0 then (some false) else (spec_ParticleOk.j2 k2 l0 x3_2 ((rd_T49 l0 x3_2).f0) ((rd_T49 l0 x3_2).f1) ((rd_T49 l0 x3_2).f2) ((rd_T49 l0 x3_2).f3))) = some r := by rw [if_pos rfl] at H; exact H
    clear H
    have H := H1
    clear H1
    by_cases c15 : (((rd_T49 l0 x3_2).f2).length : Int) > 0
    ·rw [if_pos c15] at H
     have c15b0 : decide (0 < (((rd_T49 l0 x3_2).f2).length : Int)) = true := decide_eq_true c15
     have c15b1 : decide (0 < ((rd_T49 l0 x3_2).f2).length) = true := decide_eq_true dq25
     clear c15
     obtain rfl := Option.some.inj H
     obtain ⟨⟨hcz16_0, hcz16_1, hcz16_2, hcz16_3⟩, hfz16_0, hfz16_1, hfz16_2, hfz16_3⟩ := blkC4 BK122.out
     go_wp2_with (first | ((with_reducible refine gate_callee (f := 59) rfl ?_); refine goesL_ (some 35) rfl rfl Try.func59 dq21 rfl #[.string ((rd_T49 l0 x3_2).f1)] rfl dq20 ?_; (with_reducible refine (spec_NameOk.calls k2 ((rd_T49 l0 x3_2).f1) true _ A13.out).mono ?_); rintro e w' ⟨rfl, ⟨nd, rfl⟩⟩; refine ⟨_, rfl, ?_⟩))
     go_ret
     exact ⟨dq19, dq47⟩
    rw [if_neg c15] at H
    have c15b0 : decide (0 < (((rd_T49 l0 x3_2).f2).length : Int)) = false := decide_eq_false c15
    have c15b1 : decide (0 < ((rd_T49 l0 x3_2).f2).length) = false := decide_eq_false dq25
    clear c15
    have H' := Aside0.mk H
    clear H
    obtain ⟨⟨hcz17_0, hcz17_1, hcz17_2, hcz17_3⟩, hfz17_0, hfz17_1, hfz17_2, hfz17_3⟩ := blkC4 BK122.out
    go_wp2_with (first | ((with_reducible refine gate_callee (f := 59) rfl ?_); refine goesL_ (some 35) rfl rfl Try.func59 dq21 rfl #[.string ((rd_T49 l0 x3_2).f1)] rfl dq20 ?_; (with_reducible refine (spec_NameOk.calls k2 ((rd_T49 l0 x3_2).f1) true _ A13.out).mono ?_); rintro e w' ⟨rfl, ⟨nd, rfl⟩⟩; refine ⟨_, rfl, ?_⟩))
    go_meet
    case rel => exact ⟨_, H', ⟨dq49⟩, ⟨dq48⟩, ⟨dq47⟩⟩
   rw [if_neg c12] at H
   have c12b0 := beq_eq_false_iff_ne.mpr c12
   have c12b1 := bne_iff_ne.mpr c12
   (first | rw [c12b0] | (simp only [i64_w, i32_w]; rw [c12b0]) | skip)
   by_cases c19 : ((rd_T49 l0 x3_2).f0) = 4
   ·rw [if_pos c19] at H
    have c19b0 := beq_iff_eq.mpr c19
    have c19b1 := bne_eq_false_iff_eq.mpr c19
    clear c19
    by_cases c20 : ((rd_T49 l0 x3_2).f1).toList = ([] : List UInt8)
    rotate_left
    ·rw [if_neg c20] at H
     have c20b0 := beq_eq_false_iff_ne.mpr c20
     have c20b1 := bne_iff_ne.mpr c20
     obtain rfl := Option.some.inj H
     obtain ⟨⟨hcz24_0, hcz24_1, hcz24_2, hcz24_3⟩, hfz24_0, hfz24_1, hfz24_2, hfz24_3⟩ := blkC4 BK122.out
     go_wp2
     go_ret
     exact ⟨dq19, dq47⟩
    rw [if_pos c20] at H
    have c20b0 := beq_iff_eq.mpr c20
    have c20b1 := bne_eq_false_iff_eq.mpr c20
    clear c20
    by_cases c21 : (((rd_T49 l0 x3_2).f2).length : Int) > 0
    ·rw [if_pos c21] at H
     have c21b0 : decide (0 < (((rd_T49 l0 x3_2).f2).length : Int)) = true := decide_eq_true c21
     have c21b1 : decide (0 < ((rd_T49 l0 x3_2).f2).length) = true := decide_eq_true dq25
     clear c21
     obtain rfl := Option.some.inj H
     obtain ⟨⟨hcz22_0, hcz22_1, hcz22_2, hcz22_3⟩, hfz22_0, hfz22_1, hfz22_2, hfz22_3⟩ := blkC4 BK122.out
     go_wp2
     go_ret
     exact ⟨dq19, dq47⟩
    rw [if_neg c21] at H
    have c21b0 : decide (0 < (((rd_T49 l0 x3_2).f2).length : Int)) = false := decide_eq_false c21
    have c21b1 : decide (0 < ((rd_T49 l0 x3_2).f2).length) = false := decide_eq_false dq25
    clear c21
    have H' := Aside0.mk H
    clear H
    obtain ⟨⟨hcz23_0, hcz23_1, hcz23_2, hcz23_3⟩, hfz23_0, hfz23_1, hfz23_2, hfz23_3⟩ := blkC4 BK122.out
    go_wp2
    go_meet
    case rel => exact ⟨_, H', ⟨dq49⟩, ⟨dq48⟩, ⟨dq47⟩⟩
   rw [if_neg c19] at H
   have c19b0 := beq_eq_false_iff_ne.mpr c19
   have c19b1 := bne_iff_ne.mpr c19
   by_cases c25 : ((rd_T49 l0 x3_2).f0) = 2
   ·rw [if_pos c25] at H
    have c25b0 := beq_iff_eq.mpr c25
    have c25b1 := bne_eq_false_iff_eq.mpr c25
    clear c25
    by_cases c26 : ((rd_T49 l0 x3_2).f1).toList = ([] : List UInt8)
    rotate_left
    ·rw [if_neg c26] at H
     have c26b0 := beq_eq_false_iff_ne.mpr c26
     have c26b1 := bne_iff_ne.mpr c26
     obtain rfl := Option.some.inj H
     obtain ⟨⟨hcz28_0, hcz28_1, hcz28_2, hcz28_3⟩, hfz28_0, hfz28_1, hfz28_2, hfz28_3⟩ := blkC4 BK122.out
     go_wp2
     go_ret
     exact ⟨dq19, dq47⟩
    rw [if_pos c26] at H
    have c26b0 := beq_iff_eq.mpr c26
    have c26b1 := bne_eq_false_iff_eq.mpr c26
    clear c26
    have H' := Aside0.mk H
    clear H
    obtain ⟨⟨hcz27_0, hcz27_1, hcz27_2, hcz27_3⟩, hfz27_0, hfz27_1, hfz27_2, hfz27_3⟩ := blkC4 BK122.out
    go_wp2
    go_meet
    case rel => exact ⟨_, H', ⟨dq49⟩, ⟨dq48⟩, ⟨dq47⟩⟩
   rw [if_neg c25] at H
   have c25b0 := beq_eq_false_iff_ne.mpr c25
   have c25b1 := bne_iff_ne.mpr c25
   by_cases c29 : ((rd_T49 l0 x3_2).f0) = 3
   rotate_left
   ·rw [if_neg c29] at H
    have c29b0 := beq_eq_false_iff_ne.mpr c29
    have c29b1 := bne_iff_ne.mpr c29
    obtain rfl := Option.some.inj H
    go_wp2
    go_ret
    exact ⟨dq19, dq47⟩
   rw [if_pos c29] at H
   have c29b0 := beq_iff_eq.mpr c29
   have c29b1 := bne_eq_false_iff_eq.mpr c29
   clear c29
   by_cases c30 : ((rd_T49 l0 x3_2).f1).toList = ([] : List UInt8)
   rotate_left
   ·rw [if_neg c30] at H
    have c30b0 := beq_eq_false_iff_ne.mpr c30
    have c30b1 := bne_iff_ne.mpr c30
    obtain rfl := Option.some.inj H
    obtain ⟨⟨hcz34_0, hcz34_1, hcz34_2, hcz34_3⟩, hfz34_0, hfz34_1, hfz34_2, hfz34_3⟩ := blkC4 BK122.out
    go_wp2
    go_ret
    exact ⟨dq19, dq47⟩
   rw [if_pos c30] at H
   have c30b0 := beq_iff_eq.mpr c30
   have c30b1 := bne_eq_false_iff_eq.mpr c30
   clear c30
   by_cases c31 : (((rd_T49 l0 x3_2).f2).length : Int) < 2
   ·rw [if_pos c31] at H
    have c31b0 := decide_eq_true c31
    have c31b1 : decide (((rd_T49 l0 x3_2).f2).length < 2) = true := decide_eq_true dq25
    clear c31
    obtain rfl := Option.some.inj H
    obtain ⟨⟨hcz32_0, hcz32_1, hcz32_2, hcz32_3⟩, hfz32_0, hfz32_1, hfz32_2, hfz32_3⟩ := blkC4 BK122.out
    go_wp2
    go_ret
    exact ⟨dq19, dq47⟩
   rw [if_neg c31] at H
   have c31b0 := decide_eq_false c31
   have c31b1 : decide (((rd_T49 l0 x3_2).f2).length < 2) = false := decide_eq_false dq25
   clear c31
   have H' := Aside0.mk H
   clear H
   obtain ⟨⟨hcz33_0, hcz33_1, hcz33_2, hcz33_3⟩, hfz33_0, hfz33_1, hfz33_2, hfz33_3⟩ := blkC4 BK122.out
   go_wp2
   go_meet
   case rel => exact ⟨_, H', ⟨dq49⟩, ⟨dq48⟩, ⟨dq47⟩⟩

/-! ### spec_l8Sorted: function 34 -/
mutual
def spec_l8Sorted.l0 : Nat → List Int → List Int → Int → Option (List Int)
 | 0, _, _, _ => none
 | k + 1, x0, x3, x4 => if x4 < (x0.length : Int) then (spec_l8Sorted.l1 k x0 x3 x4 0) else (some x3)
def spec_l8Sorted.l1 : Nat → List Int → List Int → Int → Int → Option (List Int)
 | 0, _, _, _, _ => none
 | k + 1, x0, x3, x4, x5 => if x5 < (x3.length : Int) then (if 0 ≤ x5 then (if 0 ≤ x4 then (if x4 < (x0.length : Int) then (if (rd x3 x5) < (rd x0 x4) then (spec_l8Sorted.l1 k x0 x3 x4 (wrap64 (x5 + 1))) else (if (rd x3 x5) = (rd x0 x4) then (spec_l8Sorted.l0 k x0 x3 (wrap64 (x4 + 1))) else ((some (([] : List Int) : List Int)).bind fun y134 => (if x5 ≤ (x3.length : Int) then ((some (x3.take (x5 : Int).toNat : List Int)).bind fun y137 => (if y134.length + y137.length < 17592186044416 then ((some (y134 ++ y137 : List Int)).bind fun y141 => (if y141.length < 17592186044416 then ((some (y141 ++ [rd x0 x4] : List Int)).bind fun y145 => ((some (x3.drop (x5 : Int).toNat : List Int)).bind fun y148 => (if y145.length + y148.length < 17592186044416 then (spec_l8Sorted.l0 k x0 (y145 ++ y148) (wrap64 (x4 + 1))) else (none)))) else (none))) else (none))) else (none))))) else (none)) else (none)) else (none)) else ((some (([] : List Int) : List Int)).bind fun y155 => (if 0 ≤ x5 then (if x5 ≤ (x3.length : Int) then ((some (x3.take (x5 : Int).toNat : List Int)).bind fun y158 => (if y155.length + y158.length < 17592186044416 then ((some (y155 ++ y158 : List Int)).bind fun y162 => (if 0 ≤ x4 then (if x4 < (x0.length : Int) then (if y162.length < 17592186044416 then ((some (y162 ++ [rd x0 x4] : List Int)).bind fun y166 => ((some (x3.drop (x5 : Int).toNat : List Int)).bind fun y169 => (if y166.length + y169.length < 17592186044416 then (spec_l8Sorted.l0 k x0 (y166 ++ y169) (wrap64 (x4 + 1))) else (none)))) else (none)) else (none)) else (none))) else (none))) else (none)) else (none)))
end
def spec_l8Sorted.f (k : Nat) (l0 : List Int) : Option (List Int) := spec_l8Sorted.l0 k l0 (([] : List Int)) 0
set_option maxHeartbeats 8000000 in
set_option maxRecDepth 100000 in
theorem spec_l8Sorted.calls (k : Nat) (A0 : Option Addr) (c0 : Nat) (l0 : List Int) (r : List Int) (w : World) (hr0 : Kd.C (Kd.int .i64) w A0 l0.length l0) (hc0 : l0.length ≤ c0) (h : spec_l8Sorted.f k l0 = some r) :
  Calls Try.prog 34 #[.slice A0 l0.length c0] w fun e w' => ∃ v0_ : Value, e = .returned (v0_) ∧ Kd.R (Kd.int .i64) 2 w' w.heap.size (fun _ => True) v0_ r ∧ Below w.heap.size w w' := by
 have HR0 := Aside0.mk hr0
 have HC0 := Aside0.mk hc0
 clear hr0 hc0
 have HB := Aside0.mk (Below.refl w.heap.size w)
 have H : (spec_l8Sorted.l0 k l0 (([] : List Int)) 0) = some r := h
 clear h
 obtain ⟨y127, hy127⟩ : ∃ y_ : List Int, y_ = (([] : List Int)) := ⟨_, rfl⟩
 replace H : (spec_l8Sorted.l0 k l0 y127 0) = some r := by first | (rw [hy127]; with_reducible exact H) | (have H2_ := (Option.bind_some _ _).symm.trans H; rw [hy127]; with_reducible exact H2_) | (have H2_ := (Option.bind_some _ _).symm.trans H; with_reducible exact H2_) | with_reducible exact H | (rw [hy127]; exact H) | exact H
 have Ny127 := Aside0.mk hy127
 clear hy127
 have H' := Aside0.mk H
 clear H
 go_enter Try.func34, Try.ntmps34
 go_wp2_with (first | ((with_reducible refine gate_dst (N := 7) rfl ?_); refine Kd.R_lit (Kd.int .i64) _ 2 ?hg (N := 7) ?hd (xs := ([] : List Int)) (inner := []) (ok := fun _ => True) (okp := fun _ => True) ?hr ?hp (fun _ hk => hk) trivial (Below.refl _ _) (Nat.le_refl _) dq24 ?_; (case hd => rfl); (case hg => rfl); (case hr => exact dq0); (case hp => exact (Reps.none _ _)); intro v128 w2 ho3 hb hg_ hnew_; clear hg_ hnew_; (first | rw [← Ny127.out] at ho3 | (simp only [Int.reduceToNat] at ho3; rw [← Ny127.out] at ho3)); have n0_ := Aside0.mk (Kd.R_lower ho3 (below_size dq17)); have n1_ := Aside0.mk (below_step dq17 hb); clear HB; have HO129 := n0_; have HB := n1_; clear n0_ n1_; clear hb ho3))
 go_loopg [3, 4] k (fun kq v3 v4 w' => ∃ (x3_1 : List Int) (x4_1 : Int), v4 = .int .i64 x4_1 ∧ Aside0 (spec_l8Sorted.l0 kq l0 x3_1 x4_1 = some r) ∧ Aside0 (kq ≤ k) ∧ Aside0 (Kd.R (Kd.int .i64) 2 w' w.heap.size (fun _ => True) v3 x3_1) ∧ Aside0 (Below w.heap.size w w'))
 case atStart => exact ⟨(y127), (0), dq15, H', ⟨Nat.le_refl _⟩, ⟨by (with_reducible repeat (first | apply Kd.R_alloc | apply Kd.R_drewN | apply Kd.R_drew)); exact HO129.out⟩, ⟨dq17⟩⟩
 clear H'
 obtain ⟨x3_1, x4_1, rfl, HA, HK1, HO_3, HB⟩ := hrel
 cases gk with
 | zero => exact absurd HA.out (by simp [spec_l8Sorted.l0])
 | succ k1 =>
  have H := HA.out
  clear HA
  simp only [spec_l8Sorted.l0] at H
  by_cases c4 : x4_1 < (l0.length : Int)
  rotate_left
  ·rw [if_neg c4] at H
   have c4b0 := decide_eq_false c4
   clear c4
   obtain rfl := Option.some.inj H
   go_wp2
   go_ret
   exact ⟨_, dq19, dq27, dq17⟩
  rw [if_pos c4] at H
  have c4b0 := decide_eq_true c4
  clear c4
  have H' := Aside0.mk H
  clear H
  go_wp2
  go_loopg [5] k1 (fun kq v5 w' => ∃ (x5_2 : Int), v5 = .int .i64 x5_2 ∧ Aside0 (spec_l8Sorted.l1 kq l0 x3_1 x4_1 x5_2 = some r) ∧ Aside0 (kq ≤ k1) ∧ Aside0 (Kd.R (Kd.int .i64) 2 w' w.heap.size (fun _ => True) u3 x3_1) ∧ Aside0 (Below w.heap.size w w'))
  case atStart => exact ⟨(0), dq15, H', ⟨Nat.le_refl _⟩, ⟨dq27⟩, ⟨dq17⟩⟩
  clear H'
  try clear c4b0
  obtain ⟨x5_2, rfl, HA, HK2, HO_3, HB⟩ := hrel
  cases gk with
  | zero => exact absurd HA.out (by simp [spec_l8Sorted.l1])
  | succ k2 =>
   have H := HA.out
   clear HA
   simp only [spec_l8Sorted.l1] at H
   by_cases c5 : x5_2 < (x3_1.length : Int)
   rotate_left
   ·rw [if_neg c5] at H
    have c5b0 := decide_eq_false c5
    clear c5
    obtain ⟨y155, hy155⟩ : ∃ y_ : List Int, y_ = (([] : List Int)) := ⟨_, rfl⟩
    replace H : (if 0 ≤ x5_2 then (if x5_2 ≤ (x3_1.length : Int) then ((some (x3_1.take (x5_2 : Int).toNat : List Int)).bind fun y158 => (if y155.length + y158.length < 17592186044416 then ((some (y155 ++ y158 : List Int)).bind fun y162 => (if 0 ≤ x4_1 then (if x4_1 < (l0.length : Int) then (if y162.length < 17592186044416 then ((some (y162 ++ [rd l0 x4_1] : List Int)).bind fun y166 => ((some (x3_1.drop (x5_2 : Int).toNat : List Int)).bind fun y169 => (if y166.length + y169.length < 17592186044416 then (spec_l8Sorted.l0 k2 l0 (y166 ++ y169) (wrap64 (x4_1 + 1))) else (none)))) else (none)) else (none)) else (none))) else (none))) else (none)) else (none)) = some r := by first | (rw [hy155]; with_reducible exact H) | (have H2_ := (Option.bind_some _ _).symm.trans H; rw [hy155]; with_reducible exact H2_) | (have H2_ := (Option.bind_some _ _).symm.trans H; with_reducible exact H2_) | with_reducible exact H | (rw [hy155]; exact H) | exact H
    have Ny155 := Aside0.mk hy155
    clear hy155
    by_cases c28 : 0 ≤ x5_2
    rotate_left
    ·rw [if_neg c28] at H
     exact absurd H dq24
    rw [if_pos c28] at H
    have c28b0 := eq_true c28
    have c28b1 := decide_eq_true c28
    clear c28
    by_cases c29 : x5_2 ≤ (x3_1.length : Int)
    rotate_left
    ·rw [if_neg c29] at H
     exact absurd H dq24
    rw [if_pos c29] at H
    have c29b0 := eq_true c29
    have c29b1 := decide_eq_true c29
    clear c29
    obtain ⟨y158, hy158⟩ : ∃ y_ : List Int, y_ = (x3_1.take (x5_2 : Int).toNat) := ⟨_, rfl⟩
    replace H : (if y155.length + y158.length < 17592186044416 then ((some (y155 ++ y158 : List Int)).bind fun y162 => (if 0 ≤ x4_1 then (if x4_1 < (l0.length : Int) then (if y162.length < 17592186044416 then ((some (y162 ++ [rd l0 x4_1] : List Int)).bind fun y166 => ((some (x3_1.drop (x5_2 : Int).toNat : List Int)).bind fun y169 => (if y166.length + y169.length < 17592186044416 then (spec_l8Sorted.l0 k2 l0 (y166 ++ y169) (wrap64 (x4_1 + 1))) else (none)))) else (none)) else (none)) else (none))) else (none)) = some r := by first | (rw [hy158]; with_reducible exact H) | (have H2_ := (Option.bind_some _ _).symm.trans H; rw [hy158]; with_reducible exact H2_) | (have H2_ := (Option.bind_some _ _).symm.trans H; with_reducible exact H2_) | with_reducible exact H | (rw [hy158]; exact H) | exact H
    have Ny158 := Aside0.mk hy158
    clear hy158
    by_cases c30 : y155.length + y158.length < 17592186044416
    rotate_left
    ·rw [if_neg c30] at H
     exact absurd H dq24
    rw [if_pos c30] at H
    have LMc30 := Aside0.mk c30
    clear c30
    obtain ⟨y162, hy162⟩ : ∃ y_ : List Int, y_ = (y155 ++ y158) := ⟨_, rfl⟩
    replace H : (if 0 ≤ x4_1 then (if x4_1 < (l0.length : Int) then (if y162.length < 17592186044416 then ((some (y162 ++ [rd l0 x4_1] : List Int)).bind fun y166 => ((some (x3_1.drop (x5_2 : Int).toNat : List Int)).bind fun y169 => (if y166.length + y169.length < 17592186044416 then (spec_l8Sorted.l0 k2 l0 (y166 ++ y169) (wrap64 (x4_1 + 1))) else (none)))) else (none)) else (none)) else (none)) = some r := by first | (rw [hy162]; with_reducible exact H) | (have H2_ := (Option.bind_some _ _).symm.trans H; rw [hy162]; with_reducible exact H2_) | (have H2_ := (Option.bind_some _ _).symm.trans H; with_reducible exact H2_) | with_reducible exact H | (rw [hy162]; exact H) | exact H
    have Ny162 := Aside0.mk hy162
    clear hy162
    by_cases c31 : 0 ≤ x4_1
    rotate_left
    ·rw [if_neg c31] at H
     exact absurd H dq24
    rw [if_pos c31] at H
    have c31b0 := decide_eq_true c31
    clear c31
    by_cases c32 : x4_1 < (l0.length : Int)
    rotate_left
    ·rw [if_neg c32] at H
     exact absurd H dq24
    rw [if_pos c32] at H
    have c32b0 := decide_eq_true c32
    clear c32
    by_cases c33 : y162.length < 17592186044416
    rotate_left
    ·rw [if_neg c33] at H
     exact absurd H dq24
    rw [if_pos c33] at H
    have LMc33 := Aside0.mk c33
    clear c33
    obtain ⟨y166, hy166⟩ : ∃ y_ : List Int, y_ = (y162 ++ [rd l0 x4_1]) := ⟨_, rfl⟩
    replace H : ((some (x3_1.drop (x5_2 : Int).toNat : List Int)).bind fun y169 => (if y166.length + y169.length < 17592186044416 then (spec_l8Sorted.l0 k2 l0 (y166 ++ y169) (wrap64 (x4_1 + 1))) else (none))) = some r := by first | (rw [hy166]; with_reducible exact H) | (have H2_ := (Option.bind_some _ _).symm.trans H; rw [hy166]; with_reducible exact H2_) | (have H2_ := (Option.bind_some _ _).symm.trans H; with_reducible exact H2_) | with_reducible exact H | (rw [hy166]; exact H) | exact H
    have Ny166 := Aside0.mk hy166
    clear hy166
    have c34b0 := eq_true (of_decide_eq_true dq22 : 0 ≤ x5_2)
    have c35b0 := eq_true (of_decide_eq_true dq22 : x5_2 ≤ (x3_1.length : Int))
    obtain ⟨y169, hy169⟩ : ∃ y_ : List Int, y_ = (x3_1.drop (x5_2 : Int).toNat) := ⟨_, rfl⟩
    replace H : (if y166.length + y169.length < 17592186044416 then (spec_l8Sorted.l0 k2 l0 (y166 ++ y169) (wrap64 (x4_1 + 1))) else (none)) = some r := by first | (rw [hy169]; with_reducible exact H) | (have H2_ := (Option.bind_some _ _).symm.trans H; rw [hy169]; with_reducible exact H2_) | (have H2_ := (Option.bind_some _ _).symm.trans H; with_reducible exact H2_) | with_reducible exact H | (rw [hy169]; exact H) | exact H
    have Ny169 := Aside0.mk hy169
    clear hy169
    by_cases c36 : y166.length + y169.length < 17592186044416
    rotate_left
    ·rw [if_neg c36] at H
     exact absurd H dq24
    rw [if_pos c36] at H
    have LMc36 := Aside0.mk c36
    clear c36
    obtain ⟨y173, hy173⟩ : ∃ y_ : List Int, y_ = (y166 ++ y169) := ⟨_, rfl⟩
    replace H : (spec_l8Sorted.l0 k2 l0 y173 (wrap64 (x4_1 + 1))) = some r := by first | (rw [hy173]; with_reducible exact H) | (have H2_ := (Option.bind_some _ _).symm.trans H; rw [hy173]; with_reducible exact H2_) | (have H2_ := (Option.bind_some _ _).symm.trans H; with_reducible exact H2_) | with_reducible exact H | (rw [hy173]; exact H) | exact H
    have Ny173 := Aside0.mk hy173
    clear hy173
    have H' := Aside0.mk H
    clear H
    obtain ⟨Ao37, co37, eo37⟩ := Kd.R_slice HO_3.out
    subst eo37
    go_wp2_with (fail)
    repeat (go_quiet (fail); try go_wp2_with (first | ((with_reducible refine gate_dst (N := 46) rfl ?_); refine Kd.R_lit (Kd.int .i64) _ 2 ?hg (N := 46) ?hd (xs := ([] : List Int)) (inner := []) (ok := fun _ => True) (okp := fun _ => True) ?hr ?hp (fun _ hk => hk) trivial (Below.refl _ _) (Nat.le_refl _) dq24 ?_; (case hd => rfl); (case hg => rfl); (case hr => exact dq0); (case hp => exact (Reps.none _ _)); intro v156 w38 ho39 hb hg_ hnew_; clear hg_ hnew_; (first | rw [← Ny155.out] at ho39 | (simp only [Int.reduceToNat] at ho39; rw [← Ny155.out] at ho39)); have n0_ := Aside0.mk (Kd.R_elder' dq27 (Kd.R_base ho39) hb); have n1_ := Aside0.mk (Kd.R_lower (Kd.R_new' ho39 (Kd.R_lt dq27)) (below_size dq17)); have n2_ := Aside0.mk (below_step dq17 hb); clear HO_3; clear HB; have HO_3 := n0_; have HO157 := n1_; have HB := n2_; clear n0_ n1_ n2_; clear hb ho39; have q40 : (x5_2 : Int) ≤ ((x3_1.length : Int) : Int) := of_decide_eq_true dq22; obtain ⟨i040, hi040, _, hsz40, _⟩ := info_parts info2; have hroom40 : x3_1.length ≤ co37 := (Kd.R_reads' HO_3.out).2.1; have hC40 : Kd.C (Kd.int .i64) _ Ao37 x3_1.length x3_1 := (Kd.R_reads' HO_3.out).2.2; have hcut40 := cut_to (P := Try.prog) 24 2 .i64 Try.underlying24 hi040 Ao37 x3_1.length co37 x5_2 (of_decide_eq_true dq22) q40 hroom40; have hr40 := Kd.C_take (m := (x5_2 : Int).toNat) hC40 dq25; have hy40 : y158.length = (x5_2 : Int).toNat := (by rw [Ny158.out, List.length_take]; omega); rw [← Ny158.out] at hr40; rw [← hy40] at hcut40; have HR161 := Aside0.mk hr40; have HC161 := Aside0.mk (show y158.length ≤ co37 from by omega); clear hr40 hC40 hroom40 hi040 hsz40; have KY40 := Aside0.mk hy40; clear hy40; have KL40 := Aside0.mk (show (x5_2 : Int).toNat ≤ x3_1.length from by omega); replace q40 := eq_true q40) | ((with_reducible refine gate_builtin (b := .append) (xs := #[.tmp 46, .tmp 49]) rfl ?_); at_builtin; refine Kd.R_append_rows (Kd.int .i64) (w0 := w) w.heap.size rfl (.tmp 46) (.tmp 49) 24 2 (.int .i64 0) 8 rfl Try.underlying24 info2 rfl dq26 dq25 v156 y155 y158 _ _ _ (fun k_ => some k_ ≠ (.slice Ao37 x3_1.length co37 : Value).ownBlock) (fun _ => False) rfl rfl ?aO ?aR (fun _ _ h => h) (fun _ h => h.elim) ?aF ?aB ?aS ?aL ?_; (case aR => repeat (first | exact (by repeat (first | (with_reducible exact HR161.out) | (with_reducible refine Kd.C_alloc ?_ _) | (with_reducible refine Kd.C_drewN ?_ _) | (with_reducible refine Kd.C_drew ?_) | exact HR161.out)) | (with_reducible refine Kd.C_alloc ?_ _) | (with_reducible refine Kd.C_drewN ?_ _) | (with_reducible refine Kd.C_drew ?_))); (case aB => exact dq17); (case aF => exact (fun k_ hk => Kd.fresh' (Kd.R_lt dq27) k_ hk)); (case aO => exact (by (with_reducible repeat (first | apply Kd.R_alloc | apply Kd.R_drewN | apply Kd.R_drew)); exact Kd.R_mono HO157.out (fun _ hk => hk.2))); (case aS => exact (below_size dq17)); (case aL => have := LMc30.out; omega); intro v163 w41 ho hb hg hat; rw [← Ny162.out] at ho; have n0_ := Aside0.mk (Kd.R_after (ok := (fun _ => True)) dq27 hg hat); have n1_ := Aside0.mk (hb); have n2_ := Aside0.mk ((show Kd.C (Kd.int .i64) w41 Ao37 y158.length y158 from by rw [Ny158.out]; exact Kd.C_take (m := (x5_2 : Int).toNat) ((Kd.R_reads' (Kd.R_after (ok := (fun _ => True)) dq27 hg hat)).2.2) KL40.out)); have n3_ := Aside0.mk (ho); clear HO_3; clear HB; clear HR161; clear HO157; have HO_3 := n0_; have HB := n1_; have HR161 := n2_; have HO164 := n3_; clear n0_ n1_ n2_ n3_; clear ho hb hg hat; have p165 : 0 ≤ (x4_1 : Int) := of_decide_eq_true dq22; have q165 : x4_1 < (l0.length : Int) := of_decide_eq_true dq22; obtain ⟨ad165, e165, hx165_0⟩ := Kd.at_int HR0.out x4_1 p165 q165; cases e165; replace hx165_0 := (HB.out.cell (World.block_lt_of_cell? w _ hx165_0)).trans hx165_0; replace p165 := eq_true p165; replace q165 := eq_true q165) | ((with_reducible refine gate_builtin (b := .append) (xs := #[.tmp 51, .tmp 56]) rfl ?_); at_builtin; refine Kd.R_append (Kd.int .i64) (w0 := w) w.heap.size rfl (.tmp 51) (.tmp 56) 24 2 (.int .i64 0) 8 rfl Try.underlying24 info2 rfl dq26 dq25 v163 y162 (rd l0 x4_1) [.int .i64 (rd l0 x4_1)] (fun k_ => some k_ ≠ (.slice Ao37 x3_1.length co37 : Value).ownBlock) (fun _ => False) rfl rfl ?aP (fun _ hk => hk.elim) ?aF ?aO ?aB ?aS ?aL ?_; (case aP => exact rfl); (case aB => exact dq17); (case aF => exact (fun k_ hk => Kd.fresh' (Kd.R_lt dq27) k_ hk)); (case aO => exact (by (with_reducible repeat (first | apply Kd.R_alloc | apply Kd.R_drewN | apply Kd.R_drew)); exact HO164.out)); (case aS => exact (below_size dq17)); (case aL => have := LMc33.out; omega); intro v167 w42 ho hb hg hat; rw [← Ny166.out] at ho; have n0_ := Aside0.mk (Kd.R_after (ok := (fun _ => True)) dq27 hg hat); have n1_ := Aside0.mk (hb); have n2_ := Aside0.mk ((show Kd.C (Kd.int .i64) w42 Ao37 y158.length y158 from by rw [Ny158.out]; exact Kd.C_take (m := (x5_2 : Int).toNat) ((Kd.R_reads' (Kd.R_after (ok := (fun _ => True)) dq27 hg hat)).2.2) KL40.out)); have n3_ := Aside0.mk (ho); clear HO_3; clear HB; clear HR161; clear HO164; have HO_3 := n0_; have HB := n1_; have HR161 := n2_; have HO168 := n3_; clear n0_ n1_ n2_ n3_; clear ho hb hg hat; have q43 : (x5_2 : Int) ≤ ((x3_1.length : Int) : Int) := of_decide_eq_true dq22; obtain ⟨i043, hi043, _, hsz43, _⟩ := info_parts info2; have hroom43 : x3_1.length ≤ co37 := (Kd.R_reads' HO_3.out).2.1; have hC43 : Kd.C (Kd.int .i64) _ Ao37 x3_1.length x3_1 := (Kd.R_reads' HO_3.out).2.2; have q043 : (0 : Int) ≤ (x5_2 : Int) := of_decide_eq_true dq22; have hcut43 := cut_from (P := Try.prog) 24 2 .i64 Try.underlying24 hi043 1 hsz43 Ao37 x3_1.length co37 x5_2 q043 q43; have hr43 := Kd.C_drop (m := (x5_2 : Int).toNat) (c := co37) hC43 dq25 hroom43; obtain ⟨A43, hA43⟩ : ∃ A1, A1 = (if co37 = (x5_2 : Int).toNat then Ao37 else (Ao37 : Option Addr).map (·.add ((x5_2 : Int).toNat * 1))) := ⟨_, rfl⟩; obtain ⟨c43, hc43⟩ : ∃ c1, c1 = co37 - (x5_2 : Int).toNat := ⟨_, rfl⟩; have hy43 : y169.length = x3_1.length - (x5_2 : Int).toNat := (by rw [Ny169.out, List.length_drop] <;> omega); rw [show (x3_1).drop (x5_2 : Int).toNat = y169 from Ny169.out.symm] at hr43; replace hr43 : Kd.C (Kd.int .i64) _ A43 y169.length y169 := (by rw [hA43]; exact hr43); rw [← hy43, ← hA43, ← hc43] at hcut43; have HR172 := Aside0.mk hr43; have HC172 := Aside0.mk (show y169.length ≤ c43 from by rw [hy43, hc43]; exact Nat.sub_le_sub_right hroom43 _); clear hr43 hC43 hroom43 hi043 hsz43 hc43; have KY43 := Aside0.mk hy43; have KA43 := Aside0.mk hA43; clear hy43 hA43; have KL43 := Aside0.mk (show (x5_2 : Int).toNat ≤ x3_1.length from by omega); replace q43 := eq_true q43) | ((with_reducible refine gate_builtin (b := .append) (xs := #[.tmp 58, .tmp 61]) rfl ?_); at_builtin; refine Kd.R_append_rows (Kd.int .i64) (w0 := w) w.heap.size rfl (.tmp 58) (.tmp 61) 24 2 (.int .i64 0) 8 rfl Try.underlying24 info2 rfl dq26 dq25 v167 y166 y169 _ _ _ (fun k_ => some k_ ≠ (.slice Ao37 x3_1.length co37 : Value).ownBlock) (fun _ => False) rfl rfl ?aO ?aR (fun _ _ h => h) (fun _ h => h.elim) ?aF ?aB ?aS ?aL ?_; (case aR => repeat (first | exact (by repeat (first | (with_reducible exact HR172.out) | (with_reducible refine Kd.C_alloc ?_ _) | (with_reducible refine Kd.C_drewN ?_ _) | (with_reducible refine Kd.C_drew ?_) | exact HR172.out)) | (with_reducible refine Kd.C_alloc ?_ _) | (with_reducible refine Kd.C_drewN ?_ _) | (with_reducible refine Kd.C_drew ?_))); (case aB => exact dq17); (case aF => exact (fun k_ hk => Kd.fresh' (Kd.R_lt dq27) k_ hk)); (case aO => exact (by (with_reducible repeat (first | apply Kd.R_alloc | apply Kd.R_drewN | apply Kd.R_drew)); exact HO168.out)); (case aS => exact (below_size dq17)); (case aL => have := LMc36.out; omega); intro v174 w44 ho hb hg hat; rw [← Ny173.out] at ho; have n0_ := Aside0.mk (Kd.R_after (ok := (fun _ => True)) dq27 hg hat); have n1_ := Aside0.mk (hb); have n2_ := Aside0.mk ((show Kd.C (Kd.int .i64) w44 Ao37 y158.length y158 from by rw [Ny158.out]; exact Kd.C_take (m := (x5_2 : Int).toNat) ((Kd.R_reads' (Kd.R_after (ok := (fun _ => True)) dq27 hg hat)).2.2) KL40.out)); have n3_ := Aside0.mk ((show Kd.C (Kd.int .i64) w44 A43 y169.length y169 from by rw [Ny169.out, KA43.out]; exact Kd.C_drop (m := (x5_2 : Int).toNat) (c := co37) ((Kd.R_reads' (Kd.R_after (ok := (fun _ => True)) dq27 hg hat)).2.2) KL43.out ((Kd.R_reads' (Kd.R_after (ok := (fun _ => True)) dq27 hg hat)).2.1))); have n4_ := Aside0.mk (ho); clear HO_3; clear HB; clear HR161; clear HR172; clear HO168; have HO_3 := n0_; have HB := n1_; have HR161 := n2_; have HR172 := n3_; have HO175 := n4_; clear n0_ n1_ n2_ n3_ n4_; clear ho hb hg hat)))
    go_roundg k2
    case measure => have := HK1.out; have := HK2.out; omega
    case rel => exact ⟨(y173), (wrap64 (x4_1 + 1)), dq15, H', ⟨dq52⟩, ⟨by (with_reducible repeat (first | apply Kd.R_alloc | apply Kd.R_drewN | apply Kd.R_drew)); exact Kd.R_mono HO175.out (fun _ hk => trivial)⟩, ⟨dq17⟩⟩
   rw [if_pos c5] at H
   have c5b0 := decide_eq_true c5
   clear c5
   by_cases c6 : 0 ≤ x5_2
   rotate_left
   ·rw [if_neg c6] at H
    exact absurd H dq24
   rw [if_pos c6] at H
   have c6b0 := decide_eq_true c6
   clear c6
   by_cases c7 : 0 ≤ x4_1
   rotate_left
   ·rw [if_neg c7] at H
    exact absurd H dq24
   rw [if_pos c7] at H
   have c7b0 := decide_eq_true c7
   clear c7
   by_cases c8 : x4_1 < (l0.length : Int)
   rotate_left
   ·rw [if_neg c8] at H
    exact absurd H dq24
   rw [if_pos c8] at H
   have c8b0 := decide_eq_true c8
   clear c8
   by_cases c9 : (rd x3_1 x5_2) < (rd l0 x4_1)
   ·rw [if_pos c9] at H
    have c9b0 := decide_eq_true c9
    clear c9
    have H' := Aside0.mk H
    clear H
    obtain ⟨Ao10, co10, eo10⟩ := Kd.R_slice HO_3.out
    subst eo10
    have p130 : 0 ≤ (x5_2 : Int) := of_decide_eq_true dq22
    have q130 : x5_2 < (x3_1.length : Int) := of_decide_eq_true dq22
    obtain ⟨ad130, e130, hx130_0⟩ := Kd.at_int (Kd.R_reads' HO_3.out).2.2 x5_2 p130 q130
    cases e130
    replace p130 := eq_true p130
    replace q130 := eq_true q130
    have p131 : 0 ≤ (x4_1 : Int) := of_decide_eq_true dq22
    have q131 : x4_1 < (l0.length : Int) := of_decide_eq_true dq22
    obtain ⟨ad131, e131, hx131_0⟩ := Kd.at_int HR0.out x4_1 p131 q131
    cases e131
    replace hx131_0 := (HB.out.cell (World.block_lt_of_cell? w _ hx131_0)).trans hx131_0
    replace p131 := eq_true p131
    replace q131 := eq_true q131
    go_wp2
    repeat (go_quiet (fail); try go_wp2)
    go_roundg k2
    case measure => have := HK1.out; have := HK2.out; omega
    case rel => exact ⟨(wrap64 (x5_2 + 1)), dq15, H', ⟨dq52⟩, ⟨dq27⟩, ⟨dq17⟩⟩
   rw [if_neg c9] at H
   have c9b0 := decide_eq_false c9
   clear c9
   by_cases c11 : (rd x3_1 x5_2) = (rd l0 x4_1)
   ·rw [if_pos c11] at H
    have c11b0 := beq_iff_eq.mpr c11
    have c11b1 := bne_eq_false_iff_eq.mpr c11
    clear c11
    have H' := Aside0.mk H
    clear H
    obtain ⟨Ao12, co12, eo12⟩ := Kd.R_slice HO_3.out
    subst eo12
    have p130 : 0 ≤ (x5_2 : Int) := of_decide_eq_true dq22
    have q130 : x5_2 < (x3_1.length : Int) := of_decide_eq_true dq22
    obtain ⟨ad130, e130, hx130_0⟩ := Kd.at_int (Kd.R_reads' HO_3.out).2.2 x5_2 p130 q130
    cases e130
    replace p130 := eq_true p130
    replace q130 := eq_true q130
    have p131 : 0 ≤ (x4_1 : Int) := of_decide_eq_true dq22
    have q131 : x4_1 < (l0.length : Int) := of_decide_eq_true dq22
    obtain ⟨ad131, e131, hx131_0⟩ := Kd.at_int HR0.out x4_1 p131 q131
    cases e131
    replace hx131_0 := (HB.out.cell (World.block_lt_of_cell? w _ hx131_0)).trans hx131_0
    replace p131 := eq_true p131
    replace q131 := eq_true q131
    have p132 : 0 ≤ (x5_2 : Int) := of_decide_eq_true dq22
    have q132 : x5_2 < (x3_1.length : Int) := of_decide_eq_true dq22
    obtain ⟨ad132, e132, hx132_0⟩ := Kd.at_int (Kd.R_reads' HO_3.out).2.2 x5_2 p132 q132
    obtain rfl : ad130 = ad132 := (by injection e132)
    replace p132 := eq_true p132
    replace q132 := eq_true q132
    have p133 : 0 ≤ (x4_1 : Int) := of_decide_eq_true dq22
    have q133 : x4_1 < (l0.length : Int) := of_decide_eq_true dq22
    obtain ⟨ad133, e133, hx133_0⟩ := Kd.at_int HR0.out x4_1 p133 q133
    obtain rfl : ad131 = ad133 := (by injection e133)
    replace hx133_0 := (HB.out.cell (World.block_lt_of_cell? w _ hx133_0)).trans hx133_0
    replace p133 := eq_true p133
    replace q133 := eq_true q133
    go_wp2
    repeat (go_quiet (fail); try go_wp2)
    go_roundg k2
    case measure => have := HK1.out; have := HK2.out; omega
    case rel => exact ⟨(x3_1), (wrap64 (x4_1 + 1)), dq15, H', ⟨dq52⟩, ⟨dq27⟩, ⟨dq17⟩⟩
   rw [if_neg c11] at H
   have c11b0 := beq_eq_false_iff_ne.mpr c11
   have c11b1 := bne_iff_ne.mpr c11
   obtain ⟨y134, hy134⟩ : ∃ y_ : List Int, y_ = (([] : List Int)) := ⟨_, rfl⟩
   replace H : (if x5_2 ≤ (x3_1.length : Int) then ((some (x3_1.take (x5_2 : Int).toNat : List Int)).bind fun y137 => (if y134.length + y137.length < 17592186044416 then ((some (y134 ++ y137 : List Int)).bind fun y141 => (if y141.length < 17592186044416 then ((some (y141 ++ [rd l0 x4_1] : List Int)).bind fun y145 => ((some (x3_1.drop (x5_2 : Int).toNat : List Int)).bind fun y148 => (if y145.length + y148.length < 17592186044416 then (spec_l8Sorted.l0 k2 l0 (y145 ++ y148) (wrap64 (x4_1 + 1))) else (none)))) else (none))) else (none))) else (none)) = some r := by first | (rw [hy134]; with_reducible exact H) | (have H2_ := (Option.bind_some _ _).symm.trans H; rw [hy134]; with_reducible exact H2_) | (have H2_ := (Option.bind_some _ _).symm.trans H; with_reducible exact H2_) | with_reducible exact H | (rw [hy134]; exact H) | exact H
   have Ny134 := Aside0.mk hy134
   clear hy134
   have c13b0 := eq_true (of_decide_eq_true dq22 : 0 ≤ x5_2)
   by_cases c14 : x5_2 ≤ (x3_1.length : Int)
   rotate_left
   ·rw [if_neg c14] at H
    exact absurd H dq24
   rw [if_pos c14] at H
   have c14b0 := eq_true c14
   have c14b1 := decide_eq_true c14
   clear c14
   obtain ⟨y137, hy137⟩ : ∃ y_ : List Int, y_ = (x3_1.take (x5_2 : Int).toNat) := ⟨_, rfl⟩
   replace H : (if y134.length + y137.length < 17592186044416 then ((some (y134 ++ y137 : List Int)).bind fun y141 => (if y141.length < 17592186044416 then ((some (y141 ++ [rd l0 x4_1] : List Int)).bind fun y145 => ((some (x3_1.drop (x5_2 : Int).toNat : List Int)).bind fun y148 => (if y145.length + y148.length < 17592186044416 then (spec_l8Sorted.l0 k2 l0 (y145 ++ y148) (wrap64 (x4_1 + 1))) else (none)))) else (none))) else (none)) = some r := by first | (rw [hy137]; with_reducible exact H) | (have H2_ := (Option.bind_some _ _).symm.trans H; rw [hy137]; with_reducible exact H2_) | (have H2_ := (Option.bind_some _ _).symm.trans H; with_reducible exact H2_) | with_reducible exact H | (rw [hy137]; exact H) | exact H
   have Ny137 := Aside0.mk hy137
   clear hy137
   by_cases c15 : y134.length + y137.length < 17592186044416
   rotate_left
   ·rw [if_neg c15] at H
    exact absurd H dq24
   rw [if_pos c15] at H
   have LMc15 := Aside0.mk c15
   clear c15
   obtain ⟨y141, hy141⟩ : ∃ y_ : List Int, y_ = (y134 ++ y137) := ⟨_, rfl⟩
   replace H : (if y141.length < 17592186044416 then ((some (y141 ++ [rd l0 x4_1] : List Int)).bind fun y145 => ((some (x3_1.drop (x5_2 : Int).toNat : List Int)).bind fun y148 => (if y145.length + y148.length < 17592186044416 then (spec_l8Sorted.l0 k2 l0 (y145 ++ y148) (wrap64 (x4_1 + 1))) else (none)))) else (none)) = some r := by first | (rw [hy141]; with_reducible exact H) | (have H2_ := (Option.bind_some _ _).symm.trans H; rw [hy141]; with_reducible exact H2_) | (have H2_ := (Option.bind_some _ _).symm.trans H; with_reducible exact H2_) | with_reducible exact H | (rw [hy141]; exact H) | exact H
   have Ny141 := Aside0.mk hy141
   clear hy141
   by_cases c16 : y141.length < 17592186044416
   rotate_left
   ·rw [if_neg c16] at H
    exact absurd H dq24
   rw [if_pos c16] at H
   have LMc16 := Aside0.mk c16
   clear c16
   obtain ⟨y145, hy145⟩ : ∃ y_ : List Int, y_ = (y141 ++ [rd l0 x4_1]) := ⟨_, rfl⟩
   replace H : ((some (x3_1.drop (x5_2 : Int).toNat : List Int)).bind fun y148 => (if y145.length + y148.length < 17592186044416 then (spec_l8Sorted.l0 k2 l0 (y145 ++ y148) (wrap64 (x4_1 + 1))) else (none))) = some r := by first | (rw [hy145]; with_reducible exact H) | (have H2_ := (Option.bind_some _ _).symm.trans H; rw [hy145]; with_reducible exact H2_) | (have H2_ := (Option.bind_some _ _).symm.trans H; with_reducible exact H2_) | with_reducible exact H | (rw [hy145]; exact H) | exact H
   have Ny145 := Aside0.mk hy145
   clear hy145
   have c17b0 := eq_true (of_decide_eq_true dq22 : 0 ≤ x5_2)
   have c18b0 := eq_true (of_decide_eq_true dq22 : x5_2 ≤ (x3_1.length : Int))
   obtain ⟨y148, hy148⟩ : ∃ y_ : List Int, y_ = (x3_1.drop (x5_2 : Int).toNat) := ⟨_, rfl⟩
   replace H : (if y145.length + y148.length < 17592186044416 then (spec_l8Sorted.l0 k2 l0 (y145 ++ y148) (wrap64 (x4_1 + 1))) else (none)) = some r := by first | (rw [hy148]; with_reducible exact H) | (have H2_ := (Option.bind_some _ _).symm.trans H; rw [hy148]; with_reducible exact H2_) | (have H2_ := (Option.bind_some _ _).symm.trans H; with_reducible exact H2_) | with_reducible exact H | (rw [hy148]; exact H) | exact H
   have Ny148 := Aside0.mk hy148
   clear hy148
   by_cases c19 : y145.length + y148.length < 17592186044416
   rotate_left
   ·rw [if_neg c19] at H
    exact absurd H dq24
   rw [if_pos c19] at H
   have LMc19 := Aside0.mk c19
   clear c19
   obtain ⟨y152, hy152⟩ : ∃ y_ : List Int, y_ = (y145 ++ y148) := ⟨_, rfl⟩
   replace H : (spec_l8Sorted.l0 k2 l0 y152 (wrap64 (x4_1 + 1))) = some r := by first | (rw [hy152]; with_reducible exact H) | (have H2_ := (Option.bind_some _ _).symm.trans H; rw [hy152]; with_reducible exact H2_) | (have H2_ := (Option.bind_some _ _).symm.trans H; with_reducible exact H2_) | with_reducible exact H | (rw [hy152]; exact H) | exact H
   have Ny152 := Aside0.mk hy152
   clear hy152
   have H' := Aside0.mk H
   clear H
   obtain ⟨Ao20, co20, eo20⟩ := Kd.R_slice HO_3.out
   subst eo20
   have p130 : 0 ≤ (x5_2 : Int) := of_decide_eq_true dq22
   have q130 : x5_2 < (x3_1.length : Int) := of_decide_eq_true dq22
   obtain ⟨ad130, e130, hx130_0⟩ := Kd.at_int (Kd.R_reads' HO_3.out).2.2 x5_2 p130 q130
   cases e130
   replace p130 := eq_true p130
   replace q130 := eq_true q130
   have p131 : 0 ≤ (x4_1 : Int) := of_decide_eq_true dq22
   have q131 : x4_1 < (l0.length : Int) := of_decide_eq_true dq22
   obtain ⟨ad131, e131, hx131_0⟩ := Kd.at_int HR0.out x4_1 p131 q131
   cases e131
   replace hx131_0 := (HB.out.cell (World.block_lt_of_cell? w _ hx131_0)).trans hx131_0
   replace p131 := eq_true p131
   replace q131 := eq_true q131
   have p132 : 0 ≤ (x5_2 : Int) := of_decide_eq_true dq22
   have q132 : x5_2 < (x3_1.length : Int) := of_decide_eq_true dq22
   obtain ⟨ad132, e132, hx132_0⟩ := Kd.at_int (Kd.R_reads' HO_3.out).2.2 x5_2 p132 q132
   obtain rfl : ad130 = ad132 := (by injection e132)
   replace p132 := eq_true p132
   replace q132 := eq_true q132
   have p133 : 0 ≤ (x4_1 : Int) := of_decide_eq_true dq22
   have q133 : x4_1 < (l0.length : Int) := of_decide_eq_true dq22
   obtain ⟨ad133, e133, hx133_0⟩ := Kd.at_int HR0.out x4_1 p133 q133
   obtain rfl : ad131 = ad133 := (by injection e133)
   replace hx133_0 := (HB.out.cell (World.block_lt_of_cell? w _ hx133_0)).trans hx133_0
   replace p133 := eq_true p133
   replace q133 := eq_true q133
   go_wp2_with (fail)
   repeat (go_quiet (fail); try go_wp2_with (first | ((with_reducible refine gate_dst (N := 46) rfl ?_); refine Kd.R_lit (Kd.int .i64) _ 2 ?hg (N := 46) ?hd (xs := ([] : List Int)) (inner := []) (ok := fun _ => True) (okp := fun _ => True) ?hr ?hp (fun _ hk => hk) trivial (Below.refl _ _) (Nat.le_refl _) dq24 ?_; (case hd => rfl); (case hg => rfl); (case hr => exact dq0); (case hp => exact (Reps.none _ _)); intro v135 w21 ho22 hb hg_ hnew_; clear hg_ hnew_; (first | rw [← Ny134.out] at ho22 | (simp only [Int.reduceToNat] at ho22; rw [← Ny134.out] at ho22)); have n0_ := Aside0.mk (Kd.R_elder' dq27 (Kd.R_base ho22) hb); have n1_ := Aside0.mk (Kd.R_lower (Kd.R_new' ho22 (Kd.R_lt dq27)) (below_size dq17)); have n2_ := Aside0.mk (below_step dq17 hb); clear HO_3; clear HB; have HO_3 := n0_; have HO136 := n1_; have HB := n2_; clear n0_ n1_ n2_; clear hb ho22; have q23 : (x5_2 : Int) ≤ ((x3_1.length : Int) : Int) := of_decide_eq_true dq22; obtain ⟨i023, hi023, _, hsz23, _⟩ := info_parts info2; have hroom23 : x3_1.length ≤ co20 := (Kd.R_reads' HO_3.out).2.1; have hC23 : Kd.C (Kd.int .i64) _ (some ad130) x3_1.length x3_1 := (Kd.R_reads' HO_3.out).2.2; have hcut23 := cut_to (P := Try.prog) 24 2 .i64 Try.underlying24 hi023 (some ad130) x3_1.length co20 x5_2 (of_decide_eq_true dq22) q23 hroom23; have hr23 := Kd.C_take (m := (x5_2 : Int).toNat) hC23 dq25; have hy23 : y137.length = (x5_2 : Int).toNat := (by rw [Ny137.out, List.length_take]; omega); rw [← Ny137.out] at hr23; rw [← hy23] at hcut23; have HR140 := Aside0.mk hr23; have HC140 := Aside0.mk (show y137.length ≤ co20 from by omega); clear hr23 hC23 hroom23 hi023 hsz23; have KY23 := Aside0.mk hy23; clear hy23; have KL23 := Aside0.mk (show (x5_2 : Int).toNat ≤ x3_1.length from by omega); replace q23 := eq_true q23) | ((with_reducible refine gate_builtin (b := .append) (xs := #[.tmp 46, .tmp 49]) rfl ?_); at_builtin; refine Kd.R_append_rows (Kd.int .i64) (w0 := w) w.heap.size rfl (.tmp 46) (.tmp 49) 24 2 (.int .i64 0) 8 rfl Try.underlying24 info2 rfl dq26 dq25 v135 y134 y137 _ _ _ (fun k_ => some k_ ≠ (.slice (some ad130) x3_1.length co20 : Value).ownBlock) (fun _ => False) rfl rfl ?aO ?aR (fun _ _ h => h) (fun _ h => h.elim) ?aF ?aB ?aS ?aL ?_; (case aR => repeat (first | exact (by repeat (first | (with_reducible exact HR140.out) | (with_reducible refine Kd.C_alloc ?_ _) | (with_reducible refine Kd.C_drewN ?_ _) | (with_reducible refine Kd.C_drew ?_) | exact HR140.out)) | (with_reducible refine Kd.C_alloc ?_ _) | (with_reducible refine Kd.C_drewN ?_ _) | (with_reducible refine Kd.C_drew ?_))); (case aB => exact dq17); (case aF => exact (fun k_ hk => Kd.fresh' (Kd.R_lt dq27) k_ hk)); (case aO => exact (by (with_reducible repeat (first | apply Kd.R_alloc | apply Kd.R_drewN | apply Kd.R_drew)); exact Kd.R_mono HO136.out (fun _ hk => hk.2))); (case aS => exact (below_size dq17)); (case aL => have := LMc15.out; omega); intro v142 w24 ho hb hg hat; rw [← Ny141.out] at ho; have n0_ := Aside0.mk (Kd.R_after (ok := (fun _ => True)) dq27 hg hat); have n1_ := Aside0.mk (hb); have n2_ := Aside0.mk ((show Kd.C (Kd.int .i64) w24 (some ad130) y137.length y137 from by rw [Ny137.out]; exact Kd.C_take (m := (x5_2 : Int).toNat) ((Kd.R_reads' (Kd.R_after (ok := (fun _ => True)) dq27 hg hat)).2.2) KL23.out)); have n3_ := Aside0.mk (ho); clear HO_3; clear HB; clear HR140; clear HO136; have HO_3 := n0_; have HB := n1_; have HR140 := n2_; have HO143 := n3_; clear n0_ n1_ n2_ n3_; clear ho hb hg hat; have p144 : 0 ≤ (x4_1 : Int) := of_decide_eq_true dq22; have q144 : x4_1 < (l0.length : Int) := of_decide_eq_true dq22; obtain ⟨ad144, e144, hx144_0⟩ := Kd.at_int HR0.out x4_1 p144 q144; obtain rfl : ad131 = ad144 := (by injection e144); replace hx144_0 := (HB.out.cell (World.block_lt_of_cell? w _ hx144_0)).trans hx144_0; replace p144 := eq_true p144; replace q144 := eq_true q144) | ((with_reducible refine gate_builtin (b := .append) (xs := #[.tmp 51, .tmp 56]) rfl ?_); at_builtin; refine Kd.R_append (Kd.int .i64) (w0 := w) w.heap.size rfl (.tmp 51) (.tmp 56) 24 2 (.int .i64 0) 8 rfl Try.underlying24 info2 rfl dq26 dq25 v142 y141 (rd l0 x4_1) [.int .i64 (rd l0 x4_1)] (fun k_ => some k_ ≠ (.slice (some ad130) x3_1.length co20 : Value).ownBlock) (fun _ => False) rfl rfl ?aP (fun _ hk => hk.elim) ?aF ?aO ?aB ?aS ?aL ?_; (case aP => exact rfl); (case aB => exact dq17); (case aF => exact (fun k_ hk => Kd.fresh' (Kd.R_lt dq27) k_ hk)); (case aO => exact (by (with_reducible repeat (first | apply Kd.R_alloc | apply Kd.R_drewN | apply Kd.R_drew)); exact HO143.out)); (case aS => exact (below_size dq17)); (case aL => have := LMc16.out; omega); intro v146 w25 ho hb hg hat; rw [← Ny145.out] at ho; have n0_ := Aside0.mk (Kd.R_after (ok := (fun _ => True)) dq27 hg hat); have n1_ := Aside0.mk (hb); have n2_ := Aside0.mk ((show Kd.C (Kd.int .i64) w25 (some ad130) y137.length y137 from by rw [Ny137.out]; exact Kd.C_take (m := (x5_2 : Int).toNat) ((Kd.R_reads' (Kd.R_after (ok := (fun _ => True)) dq27 hg hat)).2.2) KL23.out)); have n3_ := Aside0.mk (ho); clear HO_3; clear HB; clear HR140; clear HO143; have HO_3 := n0_; have HB := n1_; have HR140 := n2_; have HO147 := n3_; clear n0_ n1_ n2_ n3_; clear ho hb hg hat; have q26 : (x5_2 : Int) ≤ ((x3_1.length : Int) : Int) := of_decide_eq_true dq22; obtain ⟨i026, hi026, _, hsz26, _⟩ := info_parts info2; have hroom26 : x3_1.length ≤ co20 := (Kd.R_reads' HO_3.out).2.1; have hC26 : Kd.C (Kd.int .i64) _ (some ad130) x3_1.length x3_1 := (Kd.R_reads' HO_3.out).2.2; have q026 : (0 : Int) ≤ (x5_2 : Int) := of_decide_eq_true dq22; have hcut26 := cut_from (P := Try.prog) 24 2 .i64 Try.underlying24 hi026 1 hsz26 (some ad130) x3_1.length co20 x5_2 q026 q26; have hr26 := Kd.C_drop (m := (x5_2 : Int).toNat) (c := co20) hC26 dq25 hroom26; obtain ⟨A26, hA26⟩ : ∃ A1, A1 = (if co20 = (x5_2 : Int).toNat then (some ad130) else ((some ad130) : Option Addr).map (·.add ((x5_2 : Int).toNat * 1))) := ⟨_, rfl⟩; obtain ⟨c26, hc26⟩ : ∃ c1, c1 = co20 - (x5_2 : Int).toNat := ⟨_, rfl⟩; have hy26 : y148.length = x3_1.length - (x5_2 : Int).toNat := (by rw [Ny148.out, List.length_drop] <;> omega); rw [show (x3_1).drop (x5_2 : Int).toNat = y148 from Ny148.out.symm] at hr26; replace hr26 : Kd.C (Kd.int .i64) _ A26 y148.length y148 := (by rw [hA26]; exact hr26); rw [← hy26, ← hA26, ← hc26] at hcut26; have HR151 := Aside0.mk hr26; have HC151 := Aside0.mk (show y148.length ≤ c26 from by rw [hy26, hc26]; exact Nat.sub_le_sub_right hroom26 _); clear hr26 hC26 hroom26 hi026 hsz26 hc26; have KY26 := Aside0.mk hy26; have KA26 := Aside0.mk hA26; clear hy26 hA26; have KL26 := Aside0.mk (show (x5_2 : Int).toNat ≤ x3_1.length from by omega); replace q26 := eq_true q26) | ((with_reducible refine gate_builtin (b := .append) (xs := #[.tmp 58, .tmp 61]) rfl ?_); at_builtin; refine Kd.R_append_rows (Kd.int .i64) (w0 := w) w.heap.size rfl (.tmp 58) (.tmp 61) 24 2 (.int .i64 0) 8 rfl Try.underlying24 info2 rfl dq26 dq25 v146 y145 y148 _ _ _ (fun k_ => some k_ ≠ (.slice (some ad130) x3_1.length co20 : Value).ownBlock) (fun _ => False) rfl rfl ?aO ?aR (fun _ _ h => h) (fun _ h => h.elim) ?aF ?aB ?aS ?aL ?_; (case aR => repeat (first | exact (by repeat (first | (with_reducible exact HR151.out) | (with_reducible refine Kd.C_alloc ?_ _) | (with_reducible refine Kd.C_drewN ?_ _) | (with_reducible refine Kd.C_drew ?_) | exact HR151.out)) | (with_reducible refine Kd.C_alloc ?_ _) | (with_reducible refine Kd.C_drewN ?_ _) | (with_reducible refine Kd.C_drew ?_))); (case aB => exact dq17); (case aF => exact (fun k_ hk => Kd.fresh' (Kd.R_lt dq27) k_ hk)); (case aO => exact (by (with_reducible repeat (first | apply Kd.R_alloc | apply Kd.R_drewN | apply Kd.R_drew)); exact HO147.out)); (case aS => exact (below_size dq17)); (case aL => have := LMc19.out; omega); intro v153 w27 ho hb hg hat; rw [← Ny152.out] at ho; have n0_ := Aside0.mk (Kd.R_after (ok := (fun _ => True)) dq27 hg hat); have n1_ := Aside0.mk (hb); have n2_ := Aside0.mk ((show Kd.C (Kd.int .i64) w27 (some ad130) y137.length y137 from by rw [Ny137.out]; exact Kd.C_take (m := (x5_2 : Int).toNat) ((Kd.R_reads' (Kd.R_after (ok := (fun _ => True)) dq27 hg hat)).2.2) KL23.out)); have n3_ := Aside0.mk ((show Kd.C (Kd.int .i64) w27 A26 y148.length y148 from by rw [Ny148.out, KA26.out]; exact Kd.C_drop (m := (x5_2 : Int).toNat) (c := co20) ((Kd.R_reads' (Kd.R_after (ok := (fun _ => True)) dq27 hg hat)).2.2) KL26.out ((Kd.R_reads' (Kd.R_after (ok := (fun _ => True)) dq27 hg hat)).2.1))); have n4_ := Aside0.mk (ho); clear HO_3; clear HB; clear HR140; clear HR151; clear HO147; have HO_3 := n0_; have HB := n1_; have HR140 := n2_; have HR151 := n3_; have HO154 := n4_; clear n0_ n1_ n2_ n3_ n4_; clear ho hb hg hat)))
   go_roundg k2
   case measure => have := HK1.out; have := HK2.out; omega
   case rel => exact ⟨(y152), (wrap64 (x4_1 + 1)), dq15, H', ⟨dq52⟩, ⟨by (with_reducible repeat (first | apply Kd.R_alloc | apply Kd.R_drewN | apply Kd.R_drew)); exact Kd.R_mono HO154.out (fun _ hk => trivial)⟩, ⟨dq17⟩⟩

/-! ### spec_l8Null: function 62 -/
mutual
def spec_l8Null.j0 : Nat → List (S49) → Bool → Int → ByteArray → List Int → Int → Option (Bool)
 | 0, _, _, _, _, _, _ => none
 | k + 1, x0, x19, x178000, x178001, x178002, x178003 => if x19 = true then (some true) else (if x178000 = 2 then (spec_l8Null.l0 k x0 0 x178000 x178001 x178002 x178003) else (if x178000 = 3 then (spec_l8Null.l1 k x0 0 x178000 x178001 x178002 x178003) else (some false)))
def spec_l8Null.l0 : Nat → List (S49) → Int → Int → ByteArray → List Int → Int → Option (Bool)
 | 0, _, _, _, _, _, _ => none
 | k + 1, x0, x6, x178000, x178001, x178002, x178003 => if x6 < (x178002.length : Int) then (if 0 ≤ x6 then ((spec_l8Null.f k x0 (rd x178002 x6)).bind fun t179 => (if t179 = true then (spec_l8Null.l0 k x0 (wrap64 (x6 + 1)) x178000 x178001 x178002 x178003) else (some false))) else (none)) else (some true)
def spec_l8Null.l1 : Nat → List (S49) → Int → Int → ByteArray → List Int → Int → Option (Bool)
 | 0, _, _, _, _, _, _ => none
 | k + 1, x0, x7, x178000, x178001, x178002, x178003 => if x7 < (x178002.length : Int) then (if 0 ≤ x7 then ((spec_l8Null.f k x0 (rd x178002 x7)).bind fun t181 => (if t181 = true then (some true) else (spec_l8Null.l1 k x0 (wrap64 (x7 + 1)) x178000 x178001 x178002 x178003))) else (none)) else (some false)
def spec_l8Null.f : Nat → List (S49) → Int → Option (Bool)
 | 0, _, _ => none
 | k + 1, l0, a1 => if 0 ≤ a1 then (if a1 < (l0.length : Int) then (if ((rd_T49 l0 a1).f3) = 1 then (spec_l8Null.j0 k l0 true ((rd_T49 l0 a1).f0) ((rd_T49 l0 a1).f1) ((rd_T49 l0 a1).f2) ((rd_T49 l0 a1).f3)) else (spec_l8Null.j0 k l0 (((rd_T49 l0 a1).f3) == 2) ((rd_T49 l0 a1).f0) ((rd_T49 l0 a1).f1) ((rd_T49 l0 a1).f2) ((rd_T49 l0 a1).f3))) else (none)) else (none)
end
set_option maxHeartbeats 8000000 in
set_option maxRecDepth 100000 in
theorem spec_l8Null.calls (k : Nat) : ∀ (A0 : Option Addr) (c0 : Nat) (l0 : List (S49)) (a1 : Int) (r : Bool) (w : World) (hr0 : Kd.C k49 w A0 l0.length l0) (hc0 : l0.length ≤ c0) (h : spec_l8Null.f k l0 a1 = some r),
  Calls Try.prog 62 #[.slice A0 l0.length c0, .int .i64 a1] w fun e w' => e = .returned (.bool r) ∧ Below w.heap.size w w' := by
 induction k using Nat.strongRecOn with
 | _ k ih =>
 intro A0 c0 l0 a1 r w hr0 hc0 h
 cases k with
 | zero => exact absurd h (by simp [spec_l8Null.f])
 | succ k =>
 simp only [spec_l8Null.f] at h
 have hu49 := Try.underlying49
 have HR0 := Aside0.mk hr0
 have HC0 := Aside0.mk hc0
 clear hr0 hc0
 have HB := Aside0.mk (Below.refl w.heap.size w)
 have H : (if 0 ≤ a1 then (if a1 < (l0.length : Int) then (if ((rd_T49 l0 a1).f3) = 1 then (spec_l8Null.j0 k l0 true ((rd_T49 l0 a1).f0) ((rd_T49 l0 a1).f1) ((rd_T49 l0 a1).f2) ((rd_T49 l0 a1).f3)) else (spec_l8Null.j0 k l0 (((rd_T49 l0 a1).f3) == 2) ((rd_T49 l0 a1).f0) ((rd_T49 l0 a1).f1) ((rd_T49 l0 a1).f2) ((rd_T49 l0 a1).f3))) else (none)) else (none)) = some r := h
 clear h
 by_cases c3 : 0 ≤ a1
 rotate_left
 ·rw [if_neg c3] at H
  exact absurd H dq24
 rw [if_pos c3] at H
 have c3b0 := decide_eq_true c3
 clear c3
 by_cases c4 : a1 < (l0.length : Int)
 rotate_left
 ·rw [if_neg c4] at H
  exact absurd H dq24
 rw [if_pos c4] at H
 have c4b0 := decide_eq_true c4
 clear c4
 have HC5 := Aside0.mk H
 clear H
 have p176 : 0 ≤ (a1 : Int) := of_decide_eq_true dq22
 have q176 : a1 < (l0.length : Int) := of_decide_eq_true dq22
 obtain ⟨ad176, A176_2, c176_2, e176, hx176_0, hx176_1, hx176_2, hx176_3, hl176_2, hi176_2⟩ := at_T49 HR0.out a1 p176 q176
 cases e176
 have HR176_2 := Aside0.mk hi176_2
 have HC176_2 := Aside0.mk hl176_2
 clear hi176_2 hl176_2
 replace p176 := eq_true p176
 replace q176 := eq_true q176
 go_enter Try.func62, Try.ntmps62
 go_upto_region 2 with (first | ((with_reducible refine gate_dst (N := 5) rfl ?_); refine box_event ?hg (N := 5) ?hd (cs := #[.int .i64 0, .string (⟨#[]⟩ : ByteArray), .slice none 0 0, .int .i64 0]) (t := 49) ?hr ?_; (case hd => rfl); (case hg => rfl); (case hr => exact dq0); intro gb177 hg w6 hbox hb; have n0_ := Aside0.mk (below_step dq17 hb); have n1_ := Aside0.mk (hbox); have n2_ := Aside0.mk ((dq16 : w.heap.size ≤ gb177)); have n3_ := Aside0.mk ((dq16 : w.heap.size ≤ gb177)); clear HB; have HB := n0_; have BK177 := n1_; have GW177 := n2_; have GE177 := n3_; clear n0_ n1_ n2_ n3_; clear hb hbox hg; obtain ⟨⟨hcz7_0, hcz7_1, hcz7_2, hcz7_3⟩, hfz7_0, hfz7_1, hfz7_2, hfz7_3⟩ := blkC4 BK177.out))
 (try simp only [Act.put, List.setIfInBounds_toArray, List.set_cons_zero, List.set_cons_succ])
 go_cut [19] (fun v19 wc => ∃ (kq : Nat) (x19_4 : Bool), v19 = .bool x19_4 ∧ Aside0 (spec_l8Null.j0 kq l0 x19_4 ((rd_T49 l0 a1).f0) ((rd_T49 l0 a1).f1) ((rd_T49 l0 a1).f2) ((rd_T49 l0 a1).f3) = some r) ∧ Aside0 (kq ≤ k) ∧ Aside0 (wc.heap[gb177]? = some (.cells #[.int .i64 ((rd_T49 l0 a1).f0), .string ((rd_T49 l0 a1).f1), (.slice A176_2 ((rd_T49 l0 a1).f2).length c176_2), .int .i64 ((rd_T49 l0 a1).f3)] 49 (0, 0))) ∧ Aside0 (Below w.heap.size w wc))
 case first =>
  have H := HC5.out
  clear HC5
  by_cases c8 : ((rd_T49 l0 a1).f3) = 1
  ·rw [if_pos c8] at H
   have c8b0 := beq_iff_eq.mpr c8
   have c8b1 := bne_eq_false_iff_eq.mpr c8
   clear c8
   (first | rw [c8b0] | (simp only [i64_w, i32_w]; rw [c8b0]) | skip)
   have H' := Aside0.mk H
   clear H
   obtain ⟨⟨hcz9_0, hcz9_1, hcz9_2, hcz9_3⟩, hfz9_0, hfz9_1, hfz9_2, hfz9_3⟩ := blkC4 BK177.out
   go_wp2
   go_meet
   case rel => exact ⟨_, (true), dq15, H', ⟨dq45⟩, ⟨dq54⟩, ⟨dq53⟩⟩
  rw [if_neg c8] at H
  have c8b0 := beq_eq_false_iff_ne.mpr c8
  have c8b1 := bne_iff_ne.mpr c8
  (first | rw [c8b0] | (simp only [i64_w, i32_w]; rw [c8b0]) | skip)
  have H' := Aside0.mk H
  clear H
  obtain ⟨⟨hcz10_0, hcz10_1, hcz10_2, hcz10_3⟩, hfz10_0, hfz10_1, hfz10_2, hfz10_3⟩ := blkC4 BK177.out
  go_wp2
  go_meet
  case rel => exact ⟨_, ((((rd_T49 l0 a1).f3) == 2)), dq15, H', ⟨dq45⟩, ⟨dq54⟩, ⟨dq53⟩⟩
 clear HC5
 try clear c3b0
 try clear c4b0
 try clear hcz7_0
 try clear hcz7_1
 try clear hcz7_2
 try clear hcz7_3
 try clear hfz7_0
 try clear hfz7_1
 try clear hfz7_2
 try clear hfz7_3
 try clear hx176_0
 try clear hx176_1
 try clear hx176_2
 try clear hx176_3
 try clear p176
 try clear q176
 obtain ⟨kq, x19_4, rfl, HA, HJ4, BK177, HB⟩ := hcut
 cases kq with
 | zero => exact absurd HA.out (by simp [spec_l8Null.j0])
 | succ kj4 =>
  have H := HA.out
  clear HA
  simp only [spec_l8Null.j0] at H
  by_cases c11 : x19_4 = true
  ·subst c11
   have H1 : (some true) = some r := by rw [if_pos rfl] at H; exact H
   clear H
   have H := H1
   clear H1
   obtain rfl := Option.some.inj H
   go_wp2
   go_ret
   exact ⟨dq19, dq53⟩
  replace c11 := Bool.eq_false_iff.mpr c11
  subst c11
  have H1 : (if ((rd_T49 l0 a1).f0) = 2 then (spec_l8Null.l0 kj4 l0 0 ((rd_T49 l0 a1).f0) ((rd_T49 l0 a1).f1) ((rd_T49 l0 a1).f2) ((rd_T49 l0 a1).f3)) else (if ((rd_T49 l0 a1).f0) = 3 then (spec_l8Null.l1 kj4 l0 0 ((rd_T49 l0 a1).f0) ((rd_T49 l0 a1).f1) ((rd_T49 l0 a1).f2) ((rd_T49 l0 a1).f3)) else (some false))) = some r := by rw [if_neg (show ¬ (false = true) by decide)] at H; exact H
  clear H
  have H := H1
  clear H1
  by_cases c12 : ((rd_T49 l0 a1).f0) = 2
  ·rw [if_pos c12] at H
   have c12b0 := beq_iff_eq.mpr c12
   have c12b1 := bne_eq_false_iff_eq.mpr c12
   clear c12
   have H' := Aside0.mk H
   clear H
   obtain ⟨⟨hcz13_0, hcz13_1, hcz13_2, hcz13_3⟩, hfz13_0, hfz13_1, hfz13_2, hfz13_3⟩ := blkC4 BK177.out
   go_wp2
   go_loopg [6] kj4 (fun kq v6 w' => ∃ (x6_2 : Int), v6 = .int .i64 x6_2 ∧ Aside0 (spec_l8Null.l0 kq l0 x6_2 ((rd_T49 l0 a1).f0) ((rd_T49 l0 a1).f1) ((rd_T49 l0 a1).f2) ((rd_T49 l0 a1).f3) = some r) ∧ Aside0 (kq ≤ kj4) ∧ Aside0 (w'.heap[gb177]? = some (.cells #[.int .i64 ((rd_T49 l0 a1).f0), .string ((rd_T49 l0 a1).f1), (.slice A176_2 ((rd_T49 l0 a1).f2).length c176_2), .int .i64 ((rd_T49 l0 a1).f3)] 49 (0, 0))) ∧ Aside0 (Below w.heap.size w w'))
   case atStart => exact ⟨(0), dq15, H', ⟨Nat.le_refl _⟩, ⟨dq55⟩, ⟨dq53⟩⟩
   clear H'
   try clear c12b0
   try clear c12b1
   try clear hcz13_0
   try clear hcz13_1
   try clear hcz13_2
   try clear hcz13_3
   try clear hfz13_0
   try clear hfz13_1
   try clear hfz13_2
   try clear hfz13_3
   obtain ⟨x6_2, rfl, HA, HK2, BK177, HB⟩ := hrel
   cases gk with
   | zero => exact absurd HA.out (by simp [spec_l8Null.l0])
   | succ k2 =>
    have H := HA.out
    clear HA
    simp only [spec_l8Null.l0] at H
    by_cases c14 : x6_2 < (((rd_T49 l0 a1).f2).length : Int)
    rotate_left
    ·rw [if_neg c14] at H
     have c14b0 := decide_eq_false c14
     clear c14
     obtain rfl := Option.some.inj H
     obtain ⟨⟨hcz22_0, hcz22_1, hcz22_2, hcz22_3⟩, hfz22_0, hfz22_1, hfz22_2, hfz22_3⟩ := blkC4 BK177.out
     go_wp2
     go_ret
     exact ⟨dq19, dq53⟩
    rw [if_pos c14] at H
    have c14b0 := decide_eq_true c14
    clear c14
    by_cases c15 : 0 ≤ x6_2
    rotate_left
    ·rw [if_neg c15] at H
     exact absurd H dq24
    rw [if_pos c15] at H
    have c15b0 := decide_eq_true c15
    clear c15
    replace H := Option.bind_eq_some_iff.mp H
    obtain ⟨t179, A160, H⟩ := H
    replace H : (if t179 = true then (spec_l8Null.l0 k2 l0 (wrap64 (x6_2 + 1)) ((rd_T49 l0 a1).f0) ((rd_T49 l0 a1).f1) ((rd_T49 l0 a1).f2) ((rd_T49 l0 a1).f3)) else (some false)) = some r := H
    have A16 := Aside0.mk A160
    clear A160
    by_cases c17 : t179 = true
    rotate_left
    ·replace c17 := Bool.eq_false_iff.mpr c17
     subst c17
     have H1 : (some false) = some r := by rw [if_neg (show ¬ (false = true) by decide)] at H; exact H
     clear H
     have H := H1
     clear H1
     obtain rfl := Option.some.inj H
     obtain ⟨⟨hcz20_0, hcz20_1, hcz20_2, hcz20_3⟩, hfz20_0, hfz20_1, hfz20_2, hfz20_3⟩ := blkC4 BK177.out
     have p178 : 0 ≤ (x6_2 : Int) := of_decide_eq_true dq22
     have q178 : x6_2 < (((rd_T49 l0 a1).f2).length : Int) := of_decide_eq_true dq22
     obtain ⟨ad178, e178, hx178_0⟩ := Kd.at_int HR176_2.out x6_2 p178 q178
     cases e178
     replace hx178_0 := (HB.out.cell (World.block_lt_of_cell? w _ hx178_0)).trans hx178_0
     replace p178 := eq_true p178
     replace q178 := eq_true q178
     go_wp2_with (first | ((with_reducible refine gate_callee (f := 62) rfl ?_); refine goesL_ (some 37) rfl rfl Try.func62 dq21 rfl #[.slice (some ad176) l0.length c0, .int .i64 (rd ((rd_T49 l0 a1).f2) x6_2)] rfl dq20 ?_; (with_reducible refine (ih k2 dq56 _ _ l0 (rd ((rd_T49 l0 a1).f2) x6_2) false _ ?side1 ?side2 A16.out).mono ?_); (case side1 => exact dq5); (case side2 => exact dq4); rintro e w21 ⟨rfl, hb⟩; refine ⟨_, rfl, ?_⟩; have n0_ := Aside0.mk (blk_below (g := gb177) (o := .cells #[.int .i64 ((rd_T49 l0 a1).f0), .string ((rd_T49 l0 a1).f1), .slice (some ad178) ((rd_T49 l0 a1).f2).length c176_2, .int .i64 ((rd_T49 l0 a1).f3)] 49 (0, 0)) dq55 hb); have n1_ := Aside0.mk (below_step dq53 hb); clear BK177; clear HB; have BK177 := n0_; have HB := n1_; clear n0_ n1_; (try clear hb); (try clear hb2); (try clear hk); (try clear hi)))
     go_ret
     exact ⟨dq19, dq53⟩
    subst c17
    have H1 : (spec_l8Null.l0 k2 l0 (wrap64 (x6_2 + 1)) ((rd_T49 l0 a1).f0) ((rd_T49 l0 a1).f1) ((rd_T49 l0 a1).f2) ((rd_T49 l0 a1).f3)) = some r := by rw [if_pos rfl] at H; exact H
    clear H
    have H := H1
    clear H1
    have H' := Aside0.mk H
    clear H
    obtain ⟨⟨hcz18_0, hcz18_1, hcz18_2, hcz18_3⟩, hfz18_0, hfz18_1, hfz18_2, hfz18_3⟩ := blkC4 BK177.out
    have p178 : 0 ≤ (x6_2 : Int) := of_decide_eq_true dq22
    have q178 : x6_2 < (((rd_T49 l0 a1).f2).length : Int) := of_decide_eq_true dq22
    obtain ⟨ad178, e178, hx178_0⟩ := Kd.at_int HR176_2.out x6_2 p178 q178
    cases e178
    replace hx178_0 := (HB.out.cell (World.block_lt_of_cell? w _ hx178_0)).trans hx178_0
    replace p178 := eq_true p178
    replace q178 := eq_true q178
    go_wp2_with (first | ((with_reducible refine gate_callee (f := 62) rfl ?_); refine goesL_ (some 37) rfl rfl Try.func62 dq21 rfl #[.slice (some ad176) l0.length c0, .int .i64 (rd ((rd_T49 l0 a1).f2) x6_2)] rfl dq20 ?_; (with_reducible refine (ih k2 dq56 _ _ l0 (rd ((rd_T49 l0 a1).f2) x6_2) true _ ?side1 ?side2 A16.out).mono ?_); (case side1 => exact dq5); (case side2 => exact dq4); rintro e w19 ⟨rfl, hb⟩; refine ⟨_, rfl, ?_⟩; have n0_ := Aside0.mk (blk_below (g := gb177) (o := .cells #[.int .i64 ((rd_T49 l0 a1).f0), .string ((rd_T49 l0 a1).f1), .slice (some ad178) ((rd_T49 l0 a1).f2).length c176_2, .int .i64 ((rd_T49 l0 a1).f3)] 49 (0, 0)) dq55 hb); have n1_ := Aside0.mk (below_step dq53 hb); clear BK177; clear HB; have BK177 := n0_; have HB := n1_; clear n0_ n1_; (try clear hb); (try clear hb2); (try clear hk); (try clear hi)))
    go_roundg k2
    case measure => have := HJ4.out; have := HK2.out; omega
    case rel => exact ⟨(wrap64 (x6_2 + 1)), dq15, H', ⟨dq56⟩, ⟨dq55⟩, ⟨dq53⟩⟩
  rw [if_neg c12] at H
  have c12b0 := beq_eq_false_iff_ne.mpr c12
  have c12b1 := bne_iff_ne.mpr c12
  by_cases c23 : ((rd_T49 l0 a1).f0) = 3
  rotate_left
  ·rw [if_neg c23] at H
   have c23b0 := beq_eq_false_iff_ne.mpr c23
   have c23b1 := bne_iff_ne.mpr c23
   obtain rfl := Option.some.inj H
   obtain ⟨⟨hcz34_0, hcz34_1, hcz34_2, hcz34_3⟩, hfz34_0, hfz34_1, hfz34_2, hfz34_3⟩ := blkC4 BK177.out
   go_wp2
   go_ret
   exact ⟨dq19, dq53⟩
  rw [if_pos c23] at H
  have c23b0 := beq_iff_eq.mpr c23
  have c23b1 := bne_eq_false_iff_eq.mpr c23
  clear c23
  have H' := Aside0.mk H
  clear H
  obtain ⟨⟨hcz24_0, hcz24_1, hcz24_2, hcz24_3⟩, hfz24_0, hfz24_1, hfz24_2, hfz24_3⟩ := blkC4 BK177.out
  go_wp2
  go_loopg [7] kj4 (fun kq v7 w' => ∃ (x7_2 : Int), v7 = .int .i64 x7_2 ∧ Aside0 (spec_l8Null.l1 kq l0 x7_2 ((rd_T49 l0 a1).f0) ((rd_T49 l0 a1).f1) ((rd_T49 l0 a1).f2) ((rd_T49 l0 a1).f3) = some r) ∧ Aside0 (kq ≤ kj4) ∧ Aside0 (w'.heap[gb177]? = some (.cells #[.int .i64 ((rd_T49 l0 a1).f0), .string ((rd_T49 l0 a1).f1), (.slice A176_2 ((rd_T49 l0 a1).f2).length c176_2), .int .i64 ((rd_T49 l0 a1).f3)] 49 (0, 0))) ∧ Aside0 (Below w.heap.size w w'))
  case atStart => exact ⟨(0), dq15, H', ⟨Nat.le_refl _⟩, ⟨dq55⟩, ⟨dq53⟩⟩
  clear H'
  try clear c12
  try clear c12b0
  try clear c12b1
  try clear c23b0
  try clear c23b1
  try clear hcz24_0
  try clear hcz24_1
  try clear hcz24_2
  try clear hcz24_3
  try clear hfz24_0
  try clear hfz24_1
  try clear hfz24_2
  try clear hfz24_3
  obtain ⟨x7_2, rfl, HA, HK2, BK177, HB⟩ := hrel
  cases gk with
  | zero => exact absurd HA.out (by simp [spec_l8Null.l1])
  | succ k2 =>
   have H := HA.out
   clear HA
   simp only [spec_l8Null.l1] at H
   by_cases c25 : x7_2 < (((rd_T49 l0 a1).f2).length : Int)
   rotate_left
   ·rw [if_neg c25] at H
    have c25b0 := decide_eq_false c25
    clear c25
    obtain rfl := Option.some.inj H
    obtain ⟨⟨hcz33_0, hcz33_1, hcz33_2, hcz33_3⟩, hfz33_0, hfz33_1, hfz33_2, hfz33_3⟩ := blkC4 BK177.out
    go_wp2
    go_ret
    exact ⟨dq19, dq53⟩
   rw [if_pos c25] at H
   have c25b0 := decide_eq_true c25
   clear c25
   by_cases c26 : 0 ≤ x7_2
   rotate_left
   ·rw [if_neg c26] at H
    exact absurd H dq24
   rw [if_pos c26] at H
   have c26b0 := decide_eq_true c26
   clear c26
   replace H := Option.bind_eq_some_iff.mp H
   obtain ⟨t181, A270, H⟩ := H
   replace H : (if t181 = true then (some true) else (spec_l8Null.l1 k2 l0 (wrap64 (x7_2 + 1)) ((rd_T49 l0 a1).f0) ((rd_T49 l0 a1).f1) ((rd_T49 l0 a1).f2) ((rd_T49 l0 a1).f3))) = some r := H
   have A27 := Aside0.mk A270
   clear A270
   by_cases c28 : t181 = true
   ·subst c28
    have H1 : (some true) = some r := by rw [if_pos rfl] at H; exact H
    clear H
    have H := H1
    clear H1
    obtain rfl := Option.some.inj H
    obtain ⟨⟨hcz29_0, hcz29_1, hcz29_2, hcz29_3⟩, hfz29_0, hfz29_1, hfz29_2, hfz29_3⟩ := blkC4 BK177.out
    have p180 : 0 ≤ (x7_2 : Int) := of_decide_eq_true dq22
    have q180 : x7_2 < (((rd_T49 l0 a1).f2).length : Int) := of_decide_eq_true dq22
    obtain ⟨ad180, e180, hx180_0⟩ := Kd.at_int HR176_2.out x7_2 p180 q180
    cases e180
    replace hx180_0 := (HB.out.cell (World.block_lt_of_cell? w _ hx180_0)).trans hx180_0
    replace p180 := eq_true p180
    replace q180 := eq_true q180
    go_wp2_with (first | ((with_reducible refine gate_callee (f := 62) rfl ?_); refine goesL_ (some 54) rfl rfl Try.func62 dq21 rfl #[.slice (some ad176) l0.length c0, .int .i64 (rd ((rd_T49 l0 a1).f2) x7_2)] rfl dq20 ?_; (with_reducible refine (ih k2 dq56 _ _ l0 (rd ((rd_T49 l0 a1).f2) x7_2) true _ ?side1 ?side2 A27.out).mono ?_); (case side1 => exact dq5); (case side2 => exact dq4); rintro e w30 ⟨rfl, hb⟩; refine ⟨_, rfl, ?_⟩; have n0_ := Aside0.mk (blk_below (g := gb177) (o := .cells #[.int .i64 ((rd_T49 l0 a1).f0), .string ((rd_T49 l0 a1).f1), .slice (some ad180) ((rd_T49 l0 a1).f2).length c176_2, .int .i64 ((rd_T49 l0 a1).f3)] 49 (0, 0)) dq55 hb); have n1_ := Aside0.mk (below_step dq53 hb); clear BK177; clear HB; have BK177 := n0_; have HB := n1_; clear n0_ n1_; (try clear hb); (try clear hb2); (try clear hk); (try clear hi)))
    go_ret
    exact ⟨dq19, dq53⟩
   replace c28 := Bool.eq_false_iff.mpr c28
   subst c28
   have H1 : (spec_l8Null.l1 k2 l0 (wrap64 (x7_2 + 1)) ((rd_T49 l0 a1).f0) ((rd_T49 l0 a1).f1) ((rd_T49 l0 a1).f2) ((rd_T49 l0 a1).f3)) = some r := by rw [if_neg (show ¬ (false = true) by decide)] at H; exact H
   clear H
   have H := H1
   clear H1
   have H' := Aside0.mk H
   clear H
   obtain ⟨⟨hcz31_0, hcz31_1, hcz31_2, hcz31_3⟩, hfz31_0, hfz31_1, hfz31_2, hfz31_3⟩ := blkC4 BK177.out
   have p180 : 0 ≤ (x7_2 : Int) := of_decide_eq_true dq22
   have q180 : x7_2 < (((rd_T49 l0 a1).f2).length : Int) := of_decide_eq_true dq22
   obtain ⟨ad180, e180, hx180_0⟩ := Kd.at_int HR176_2.out x7_2 p180 q180
   cases e180
   replace hx180_0 := (HB.out.cell (World.block_lt_of_cell? w _ hx180_0)).trans hx180_0
   replace p180 := eq_true p180
   replace q180 := eq_true q180
   go_wp2_with (first | ((with_reducible refine gate_callee (f := 62) rfl ?_); refine goesL_ (some 54) rfl rfl Try.func62 dq21 rfl #[.slice (some ad176) l0.length c0, .int .i64 (rd ((rd_T49 l0 a1).f2) x7_2)] rfl dq20 ?_; (with_reducible refine (ih k2 dq56 _ _ l0 (rd ((rd_T49 l0 a1).f2) x7_2) false _ ?side1 ?side2 A27.out).mono ?_); (case side1 => exact dq5); (case side2 => exact dq4); rintro e w32 ⟨rfl, hb⟩; refine ⟨_, rfl, ?_⟩; have n0_ := Aside0.mk (blk_below (g := gb177) (o := .cells #[.int .i64 ((rd_T49 l0 a1).f0), .string ((rd_T49 l0 a1).f1), .slice (some ad180) ((rd_T49 l0 a1).f2).length c176_2, .int .i64 ((rd_T49 l0 a1).f3)] 49 (0, 0)) dq55 hb); have n1_ := Aside0.mk (below_step dq53 hb); clear BK177; clear HB; have BK177 := n0_; have HB := n1_; clear n0_ n1_; (try clear hb); (try clear hb2); (try clear hk); (try clear hi)))
   go_roundg k2
   case measure => have := HJ4.out; have := HK2.out; omega
   case rel => exact ⟨(wrap64 (x7_2 + 1)), dq15, H', ⟨dq56⟩, ⟨dq55⟩, ⟨dq53⟩⟩

end Go.Proofs.Ytejkkdjfiebmfaa.L
