/- Words and contracts for the row RowFnExactFieldOf: what the Go functions answer that it calls; printed by programs of the kit and of this session, and merged. -/
import Derived.Test.YtpmjpbaeecnpiaaGreatDoorQf5
import Derived.Shelf.Unicode.ValidAny
import Derived.Test.YtpmjpbaeecnpiaaGreatDoorProg
import Derived.Lib.OthersKept
import Derived.Lib.Hide
import Derived.Outline
namespace Go.Proofs.YtpmjpbaeecnpiaaGreatDoor.L
open Go.RowKit Go.Proofs.YtpmjpbaeecnpiaaGreatDoorW.PrintWords Go.Proofs.YtpmjpbaeecnpiaaGreatDoorW.PrintLast Go.Proofs.YtpmjpbaeecnpiaaGreatDoorW.PrintMore
attribute [local go_sem] max2_int min2_int max_two min_two max_three min_three max_four min_four
set_option linter.unusedVariables false
set_option linter.unusedSimpArgs false

/-! ### impl_fieldParts: function 50 -/
mutual
def impl_fieldParts.j0 : Nat → ByteArray → ByteArray → ByteArray → Bool → Bool → Option (List ByteArray × ByteArray × Bool)
 | 0, _, _, _, _, _ => none
 | k + 1, x0, x5, x6, x7, x19 => if x19 = true then (some (([] : List ByteArray), (⟨#[]⟩ : ByteArray), false)) else (if x0.toList = ([46] : List UInt8) then (impl_fieldParts.j1 k x5 x6 x7 true) else (if x7 = true then (impl_fieldParts.j1 k x5 x6 x7 (x5.toList == ([] : List UInt8))) else (impl_fieldParts.j1 k x5 x6 x7 false)))
def impl_fieldParts.j1 : Nat → ByteArray → ByteArray → Bool → Bool → Option (List ByteArray × ByteArray × Bool)
 | 0, _, _, _, _ => none
 | k + 1, x5, x6, x7, x31 => if x31 = true then (some (([] : List ByteArray), x6, true)) else (if x7 = true then ((strings_CutSuffix.f x5 (⟨#[47]⟩ : ByteArray)).bind fun bt344 => (if bt344.2 = true then ((impl_stepsOf.f k bt344.1).bind fun bt346 => (if bt346.2.2 = true then (some (bt346.1, x6, !bt346.2.1)) else (some (bt346.1, x6, false)))) else (some (([] : List ByteArray), (⟨#[]⟩ : ByteArray), false)))) else ((impl_stepsOf.f k x5).bind fun bt351 => (if bt351.2.2 = true then (some (bt351.1, x6, !bt351.2.1)) else (some (bt351.1, x6, false)))))
end
def impl_fieldParts.f (k : Nat) (a0 : ByteArray) : Option (List ByteArray × ByteArray × Bool) := (strings_Cut.f a0 (⟨#[64]⟩ : ByteArray)).bind fun bt340 => (if (a0.size : Int) > 20000 then (impl_fieldParts.j0 k a0 bt340.1 bt340.2.1 bt340.2.2 true) else (if bt340.2.2 = true then ((impl_NameOk.f k bt340.2.1).bind fun t343 => (impl_fieldParts.j0 k a0 bt340.1 bt340.2.1 bt340.2.2 (!t343))) else (impl_fieldParts.j0 k a0 bt340.1 bt340.2.1 bt340.2.2 false)))
set_option maxHeartbeats 8000000 in
set_option maxRecDepth 100000 in
theorem impl_fieldParts.calls (k : Nat) (a0 : ByteArray) (r1 : List ByteArray) (r2 : ByteArray) (r3 : Bool) (w : World) (hT : Gl w) (h : impl_fieldParts.f k a0 = some (r1, r2, r3)) :
  Calls Tryz.prog 50 #[.string a0] w fun e w' => ∃ v0_ : Value, e = .returned (.tuple #[v0_, .string r2, .bool r3]) ∧ Kd.R Kd.string 9 w' w.heap.size (fun _ => True) v0_ r1 ∧ Below w.heap.size w w' := by
 have HT := Aside0.mk hT
 clear hT
 have HB := Aside0.mk (Below.refl w.heap.size w)
 have H : ((strings_Cut.f a0 (⟨#[64]⟩ : ByteArray)).bind fun bt340 => (if (a0.size : Int) > 20000 then (impl_fieldParts.j0 k a0 bt340.1 bt340.2.1 bt340.2.2 true) else (if bt340.2.2 = true then ((impl_NameOk.f k bt340.2.1).bind fun t343 => (impl_fieldParts.j0 k a0 bt340.1 bt340.2.1 bt340.2.2 (!t343))) else (impl_fieldParts.j0 k a0 bt340.1 bt340.2.1 bt340.2.2 false)))) = some (r1, r2, r3) := h
 clear h
 replace H := Option.bind_eq_some_iff.mp H
 obtain ⟨⟨t340, t341, t342⟩, A20, H⟩ := H
 replace H : (if (a0.size : Int) > 20000 then (impl_fieldParts.j0 k a0 t340 t341 t342 true) else (if t342 = true then ((impl_NameOk.f k t341).bind fun t343 => (impl_fieldParts.j0 k a0 t340 t341 t342 (!t343))) else (impl_fieldParts.j0 k a0 t340 t341 t342 false))) = some (r1, r2, r3) := H
 have A2 := Aside0.mk A20
 clear A20
 have HC3 := Aside0.mk H
 clear H
 go_enter Tryz.func50, Tryz.ntmps50
 go_upto_region 2 with (first | ((with_reducible refine gate_callee (f := 95) rfl ?_); refine goesL_ (some 15) rfl rfl Tryz.func95 dq15 rfl #[.string a0, .string (⟨#[64]⟩ : ByteArray)] rfl dq14 ?_; (with_reducible refine (strings_Cut.calls a0 (⟨#[64]⟩ : ByteArray) t340 t341 t342 _ A2.out).mono ?_); rintro e w4 ⟨rfl, hb⟩; refine ⟨_, rfl, ?_⟩; have n0_ := Aside0.mk (below_step dq9 hb); clear HB; have HB := n0_; clear n0_; (try clear hb); (try clear hb2); (try clear hk); (try clear hi)))
 (try simp only [Act.put, List.setIfInBounds_toArray, List.set_cons_zero, List.set_cons_succ])
 go_cut [19] (fun v19 wc => ∃ (kq : Nat) (x19_2 : Bool), v19 = .bool x19_2 ∧ Aside0 (impl_fieldParts.j0 kq a0 t340 t341 t342 x19_2 = some (r1, r2, r3)) ∧ Aside0 (kq ≤ k) ∧ Aside0 (Below w.heap.size w wc))
 case first =>
  have H := HC3.out
  clear HC3
  by_cases c5 : (a0.size : Int) > 20000
  ·rw [if_pos c5] at H
   have c5b0 : decide (20000 < (a0.size : Int)) = true := decide_eq_true c5
   have c5b1 : decide (20000 < a0.size) = true := decide_eq_true dq20
   clear c5
   (first | rw [c5b0] | (simp only [i64_w, i32_w]; rw [c5b0]) | skip)
   have H' := Aside0.mk H
   clear H
   go_wp2
   go_meet
   case rel => exact ⟨_, (true), dq12, H', ⟨dq21⟩, ⟨dq9⟩⟩
  rw [if_neg c5] at H
  have c5b0 : decide (20000 < (a0.size : Int)) = false := decide_eq_false c5
  have c5b1 : decide (20000 < a0.size) = false := decide_eq_false dq20
  clear c5
  (first | rw [c5b0] | (simp only [i64_w, i32_w]; rw [c5b0]) | skip)
  by_cases c6 : t342 = true
  rotate_left
  ·replace c6 := Bool.eq_false_iff.mpr c6
   subst c6
   have H1 : (impl_fieldParts.j0 k a0 t340 t341 false false) = some (r1, r2, r3) := by rw [if_neg (show ¬ (false = true) by decide)] at H; exact H
   clear H
   have H := H1
   clear H1
   have H' := Aside0.mk H
   clear H
   go_wp2
   go_meet
   case rel => exact ⟨_, (false), dq12, H', ⟨dq21⟩, ⟨dq9⟩⟩
  subst c6
  have H1 : ((impl_NameOk.f k t341).bind fun t343 => (impl_fieldParts.j0 k a0 t340 t341 true (!t343))) = some (r1, r2, r3) := by rw [if_pos rfl] at H; exact H
  clear H
  have H := H1
  clear H1
  replace H := Option.bind_eq_some_iff.mp H
  obtain ⟨t343, A70, H⟩ := H
  replace H : (impl_fieldParts.j0 k a0 t340 t341 true (!t343)) = some (r1, r2, r3) := H
  have A7 := Aside0.mk A70
  clear A70
  have H' := Aside0.mk H
  clear H
  go_wp2_with (first | (go_at_call 96; (with_reducible refine (impl_NameOk.calls k t341 t343 _ A7.out).mono ?_); rintro e w' ⟨rfl, ⟨nd, rfl⟩⟩))
  go_meet
  case rel => exact ⟨_, (!t343), dq12, H', ⟨dq21⟩, ⟨dq9⟩⟩
 clear HC3
 obtain ⟨kq, x19_2, rfl, HA, HJ2, HB⟩ := hcut
 cases kq with
 | zero => exact absurd HA.out (by simp [impl_fieldParts.j0])
 | succ kj2 =>
  have H := HA.out
  clear HA
  simp only [impl_fieldParts.j0] at H
  by_cases c8 : x19_2 = true
  ·subst c8
   have H1 : (some (([] : List ByteArray), (⟨#[]⟩ : ByteArray), false)) = some (r1, r2, r3) := by rw [if_pos rfl] at H; exact H
   clear H
   have H := H1
   clear H1
   simp only [Option.some.injEq, Prod.mk.injEq] at H
   obtain ⟨rfl, rfl, rfl⟩ := H
   go_wp2
   go_ret3
   exact ⟨_, dq11, dq22, dq9⟩
  replace c8 := Bool.eq_false_iff.mpr c8
  subst c8
  have H1 : (if a0.toList = ([46] : List UInt8) then (impl_fieldParts.j1 kj2 t340 t341 t342 true) else (if t342 = true then (impl_fieldParts.j1 kj2 t340 t341 t342 (t340.toList == ([] : List UInt8))) else (impl_fieldParts.j1 kj2 t340 t341 t342 false))) = some (r1, r2, r3) := by rw [if_neg (show ¬ (false = true) by decide)] at H; exact H
  clear H
  have H := H1
  clear H1
  have HC9 := Aside0.mk H
  clear H
  go_upto_region 4 with (fail)
  go_cut [31] (fun v31 wc => ∃ (kq : Nat) (x31_8 : Bool), v31 = .bool x31_8 ∧ Aside0 (impl_fieldParts.j1 kq t340 t341 t342 x31_8 = some (r1, r2, r3)) ∧ Aside0 (kq ≤ kj2) ∧ Aside0 (Below w.heap.size w wc))
  case first =>
   have H := HC9.out
   clear HC9
   by_cases c10 : a0.toList = ([46] : List UInt8)
   ·rw [if_pos c10] at H
    have c10b0 := beq_iff_eq.mpr c10
    have c10b1 := bne_eq_false_iff_eq.mpr c10
    clear c10
    (first | rw [c10b0] | (simp only [i64_w, i32_w]; rw [c10b0]) | skip)
    have H' := Aside0.mk H
    clear H
    go_wp2
    go_meet
    case rel => exact ⟨_, (true), dq12, H', ⟨by have := HJ2.out; first | omega | exact Nat.le_refl _⟩, ⟨dq9⟩⟩
   rw [if_neg c10] at H
   have c10b0 := beq_eq_false_iff_ne.mpr c10
   have c10b1 := bne_iff_ne.mpr c10
   (first | rw [c10b0] | (simp only [i64_w, i32_w]; rw [c10b0]) | skip)
   by_cases c11 : t342 = true
   ·subst c11
    have H1 : (impl_fieldParts.j1 kj2 t340 t341 true (t340.toList == ([] : List UInt8))) = some (r1, r2, r3) := by rw [if_pos rfl] at H; exact H
    clear H
    have H := H1
    clear H1
    have H' := Aside0.mk H
    clear H
    go_wp2
    go_meet
    case rel => exact ⟨_, ((t340.toList == ([] : List UInt8))), dq12, H', ⟨by have := HJ2.out; first | omega | exact Nat.le_refl _⟩, ⟨dq9⟩⟩
   replace c11 := Bool.eq_false_iff.mpr c11
   subst c11
   have H1 : (impl_fieldParts.j1 kj2 t340 t341 false false) = some (r1, r2, r3) := by rw [if_neg (show ¬ (false = true) by decide)] at H; exact H
   clear H
   have H := H1
   clear H1
   have H' := Aside0.mk H
   clear H
   go_wp2
   go_meet
   case rel => exact ⟨_, (false), dq12, H', ⟨by have := HJ2.out; first | omega | exact Nat.le_refl _⟩, ⟨dq9⟩⟩
  clear HC9
  obtain ⟨kq, x31_8, rfl, HA, HJ8, HB⟩ := hcut
  cases kq with
  | zero => exact absurd HA.out (by simp [impl_fieldParts.j1])
  | succ kj8 =>
   have H := HA.out
   clear HA
   simp only [impl_fieldParts.j1] at H
   by_cases c12 : x31_8 = true
   ·subst c12
    have H1 : (some (([] : List ByteArray), t341, true)) = some (r1, r2, r3) := by rw [if_pos rfl] at H; exact H
    clear H
    have H := H1
    clear H1
    simp only [Option.some.injEq, Prod.mk.injEq] at H
    obtain ⟨rfl, rfl, rfl⟩ := H
    go_wp2
    go_ret3
    exact ⟨_, dq11, dq22, dq9⟩
   replace c12 := Bool.eq_false_iff.mpr c12
   subst c12
   have H1 : (if t342 = true then ((strings_CutSuffix.f t340 (⟨#[47]⟩ : ByteArray)).bind fun bt344 => (if bt344.2 = true then ((impl_stepsOf.f kj8 bt344.1).bind fun bt346 => (if bt346.2.2 = true then (some (bt346.1, t341, !bt346.2.1)) else (some (bt346.1, t341, false)))) else (some (([] : List ByteArray), (⟨#[]⟩ : ByteArray), false)))) else ((impl_stepsOf.f kj8 t340).bind fun bt351 => (if bt351.2.2 = true then (some (bt351.1, t341, !bt351.2.1)) else (some (bt351.1, t341, false))))) = some (r1, r2, r3) := by rw [if_neg (show ¬ (false = true) by decide)] at H; exact H
   clear H
   have H := H1
   clear H1
   by_cases c13 : t342 = true
   rotate_left
   ·replace c13 := Bool.eq_false_iff.mpr c13
    subst c13
    have H1 : ((impl_stepsOf.f kj8 t340).bind fun bt351 => (if bt351.2.2 = true then (some (bt351.1, t341, !bt351.2.1)) else (some (bt351.1, t341, false)))) = some (r1, r2, r3) := by rw [if_neg (show ¬ (false = true) by decide)] at H; exact H
    clear H
    have H := H1
    clear H1
    replace H := Option.bind_eq_some_iff.mp H
    obtain ⟨⟨t351, t352, t353⟩, A200, H⟩ := H
    replace H : (if t353 = true then (some (t351, t341, !t352)) else (some (t351, t341, false))) = some (r1, r2, r3) := H
    have A20 := Aside0.mk A200
    clear A200
    by_cases c21 : t353 = true
    ·subst c21
     have H1 : (some (t351, t341, !t352)) = some (r1, r2, r3) := by rw [if_pos rfl] at H; exact H
     clear H
     have H := H1
     clear H1
     simp only [Option.some.injEq, Prod.mk.injEq] at H
     obtain ⟨rfl, rfl, rfl⟩ := H
     go_wp2_with (first | ((with_reducible refine gate_callee (f := 80) rfl ?_); refine goesL_ (some 54) rfl rfl Tryz.func80 dq15 rfl #[.string t340] rfl dq14 ?_; (with_reducible refine (impl_stepsOf.calls kj8 t340 t351 t352 true _ ?side1 A20.out).mono ?_); (case side1 => exact dq4); rintro e w22 ⟨v354, rfl, ho0, hb⟩; refine ⟨_, rfl, ?_⟩; have n0_ := Aside0.mk (Kd.R_lower ho0 (below_size dq9)); have n1_ := Aside0.mk (below_step dq9 hb); clear HB; have HO355 := n0_; have HB := n1_; clear n0_ n1_; (try clear hb); (try clear hb2); (try clear hk); (try clear hi); (try clear ho0)))
     go_ret3
     exact ⟨_, dq11, by (with_reducible repeat (first | apply Kd.R_alloc | apply Kd.R_drewN | apply Kd.R_drew)); exact HO355.out, dq9⟩
    replace c21 := Bool.eq_false_iff.mpr c21
    subst c21
    have H1 : (some (t351, t341, false)) = some (r1, r2, r3) := by rw [if_neg (show ¬ (false = true) by decide)] at H; exact H
    clear H
    have H := H1
    clear H1
    simp only [Option.some.injEq, Prod.mk.injEq] at H
    obtain ⟨rfl, rfl, rfl⟩ := H
    go_wp2_with (first | ((with_reducible refine gate_callee (f := 80) rfl ?_); refine goesL_ (some 54) rfl rfl Tryz.func80 dq15 rfl #[.string t340] rfl dq14 ?_; (with_reducible refine (impl_stepsOf.calls kj8 t340 t351 t352 false _ ?side1 A20.out).mono ?_); (case side1 => exact dq4); rintro e w23 ⟨v354, rfl, ho0, hb⟩; refine ⟨_, rfl, ?_⟩; have n0_ := Aside0.mk (Kd.R_lower ho0 (below_size dq9)); have n1_ := Aside0.mk (below_step dq9 hb); clear HB; have HO355 := n0_; have HB := n1_; clear n0_ n1_; (try clear hb); (try clear hb2); (try clear hk); (try clear hi); (try clear ho0)))
    go_ret3
    exact ⟨_, dq11, by (with_reducible repeat (first | apply Kd.R_alloc | apply Kd.R_drewN | apply Kd.R_drew)); exact HO355.out, dq9⟩
   subst c13
   have H1 : ((strings_CutSuffix.f t340 (⟨#[47]⟩ : ByteArray)).bind fun bt344 => (if bt344.2 = true then ((impl_stepsOf.f kj8 bt344.1).bind fun bt346 => (if bt346.2.2 = true then (some (bt346.1, t341, !bt346.2.1)) else (some (bt346.1, t341, false)))) else (some (([] : List ByteArray), (⟨#[]⟩ : ByteArray), false)))) = some (r1, r2, r3) := by rw [if_pos rfl] at H; exact H
   clear H
   have H := H1
   clear H1
   replace H := Option.bind_eq_some_iff.mp H
   obtain ⟨⟨t344, t345⟩, A140, H⟩ := H
   replace H : (if t345 = true then ((impl_stepsOf.f kj8 t344).bind fun bt346 => (if bt346.2.2 = true then (some (bt346.1, t341, !bt346.2.1)) else (some (bt346.1, t341, false)))) else (some (([] : List ByteArray), (⟨#[]⟩ : ByteArray), false))) = some (r1, r2, r3) := H
   have A14 := Aside0.mk A140
   clear A140
   by_cases c15 : t345 = true
   rotate_left
   ·replace c15 := Bool.eq_false_iff.mpr c15
    subst c15
    have H1 : (some (([] : List ByteArray), (⟨#[]⟩ : ByteArray), false)) = some (r1, r2, r3) := by rw [if_neg (show ¬ (false = true) by decide)] at H; exact H
    clear H
    have H := H1
    clear H1
    simp only [Option.some.injEq, Prod.mk.injEq] at H
    obtain ⟨rfl, rfl, rfl⟩ := H
    go_wp2_with (first | ((with_reducible refine gate_callee (f := 97) rfl ?_); refine goesL_ (some 46) rfl rfl Tryz.func97 dq15 rfl #[.string t340, .string (⟨#[47]⟩ : ByteArray)] rfl dq14 ?_; (with_reducible refine (strings_CutSuffix.calls t340 (⟨#[47]⟩ : ByteArray) t344 false _ A14.out).mono ?_); rintro e w' ⟨rfl, ⟨nd, rfl⟩⟩; refine ⟨_, rfl, ?_⟩))
    go_ret3
    exact ⟨_, dq11, dq22, dq9⟩
   subst c15
   have H1 : ((impl_stepsOf.f kj8 t344).bind fun bt346 => (if bt346.2.2 = true then (some (bt346.1, t341, !bt346.2.1)) else (some (bt346.1, t341, false)))) = some (r1, r2, r3) := by rw [if_pos rfl] at H; exact H
   clear H
   have H := H1
   clear H1
   replace H := Option.bind_eq_some_iff.mp H
   obtain ⟨⟨t346, t347, t348⟩, A160, H⟩ := H
   replace H : (if t348 = true then (some (t346, t341, !t347)) else (some (t346, t341, false))) = some (r1, r2, r3) := H
   have A16 := Aside0.mk A160
   clear A160
   by_cases c17 : t348 = true
   ·subst c17
    have H1 : (some (t346, t341, !t347)) = some (r1, r2, r3) := by rw [if_pos rfl] at H; exact H
    clear H
    have H := H1
    clear H1
    simp only [Option.some.injEq, Prod.mk.injEq] at H
    obtain ⟨rfl, rfl, rfl⟩ := H
    go_wp2_with (first | ((with_reducible refine gate_callee (f := 97) rfl ?_); refine goesL_ (some 46) rfl rfl Tryz.func97 dq15 rfl #[.string t340, .string (⟨#[47]⟩ : ByteArray)] rfl dq14 ?_; (with_reducible refine (strings_CutSuffix.calls t340 (⟨#[47]⟩ : ByteArray) t344 true _ A14.out).mono ?_); rintro e w' ⟨rfl, ⟨nd, rfl⟩⟩; refine ⟨_, rfl, ?_⟩) | ((with_reducible refine gate_callee (f := 80) rfl ?_); refine goesL_ (some 54) rfl rfl Tryz.func80 dq15 rfl #[.string t344] rfl dq14 ?_; (with_reducible refine (impl_stepsOf.calls kj8 t344 t346 t347 true _ ?side1 A16.out).mono ?_); (case side1 => exact dq4); rintro e w18 ⟨v349, rfl, ho0, hb⟩; refine ⟨_, rfl, ?_⟩; have n0_ := Aside0.mk (Kd.R_lower ho0 (below_size dq9)); have n1_ := Aside0.mk (below_step dq9 hb); clear HB; have HO350 := n0_; have HB := n1_; clear n0_ n1_; (try clear hb); (try clear hb2); (try clear hk); (try clear hi); (try clear ho0)))
    go_ret3
    exact ⟨_, dq11, by (with_reducible repeat (first | apply Kd.R_alloc | apply Kd.R_drewN | apply Kd.R_drew)); exact HO350.out, dq9⟩
   replace c17 := Bool.eq_false_iff.mpr c17
   subst c17
   have H1 : (some (t346, t341, false)) = some (r1, r2, r3) := by rw [if_neg (show ¬ (false = true) by decide)] at H; exact H
   clear H
   have H := H1
   clear H1
   simp only [Option.some.injEq, Prod.mk.injEq] at H
   obtain ⟨rfl, rfl, rfl⟩ := H
   go_wp2_with (first | ((with_reducible refine gate_callee (f := 97) rfl ?_); refine goesL_ (some 46) rfl rfl Tryz.func97 dq15 rfl #[.string t340, .string (⟨#[47]⟩ : ByteArray)] rfl dq14 ?_; (with_reducible refine (strings_CutSuffix.calls t340 (⟨#[47]⟩ : ByteArray) t344 true _ A14.out).mono ?_); rintro e w' ⟨rfl, ⟨nd, rfl⟩⟩; refine ⟨_, rfl, ?_⟩) | ((with_reducible refine gate_callee (f := 80) rfl ?_); refine goesL_ (some 54) rfl rfl Tryz.func80 dq15 rfl #[.string t344] rfl dq14 ?_; (with_reducible refine (impl_stepsOf.calls kj8 t344 t346 t347 false _ ?side1 A16.out).mono ?_); (case side1 => exact dq4); rintro e w19 ⟨v349, rfl, ho0, hb⟩; refine ⟨_, rfl, ?_⟩; have n0_ := Aside0.mk (Kd.R_lower ho0 (below_size dq9)); have n1_ := Aside0.mk (below_step dq9 hb); clear HB; have HO350 := n0_; have HB := n1_; clear n0_ n1_; (try clear hb); (try clear hb2); (try clear hk); (try clear hi); (try clear ho0)))
   go_ret3
   exact ⟨_, dq11, by (with_reducible repeat (first | apply Kd.R_alloc | apply Kd.R_drewN | apply Kd.R_drew)); exact HO350.out, dq9⟩

/-! ### impl_CharOk: function 163 -/
def impl_CharOk.f (a0 : Int) : Option (Bool) := if a0 = 9 then (some true) else (if a0 = 10 then (some true) else (if a0 = 13 then (some true) else ((impl_in.f a0 32 55295).bind fun t356 => (if t356 = true then (some true) else ((impl_in.f a0 57344 65533).bind fun t357 => (if t357 = true then (some true) else ((impl_in.f a0 65536 1114111).bind fun t358 => (some t358))))))))
set_option maxHeartbeats 8000000 in
set_option maxRecDepth 100000 in
theorem impl_CharOk.calls (a0 : Int) (r : Bool) (w : World) (h : impl_CharOk.f a0 = some r) :
  Calls Tryz.prog 163 #[.int .i64 a0] w fun e w' => e = .returned (.bool r) ∧ Drawn0 w w' := by
 have H : (if a0 = 9 then (some true) else (if a0 = 10 then (some true) else (if a0 = 13 then (some true) else ((impl_in.f a0 32 55295).bind fun t356 => (if t356 = true then (some true) else ((impl_in.f a0 57344 65533).bind fun t357 => (if t357 = true then (some true) else ((impl_in.f a0 65536 1114111).bind fun t358 => (some t358))))))))) = some r := h
 clear h
 by_cases c2 : a0 = 9
 ·rw [if_pos c2] at H
  have c2b0 := beq_iff_eq.mpr c2
  have c2b1 := bne_eq_false_iff_eq.mpr c2
  clear c2
  obtain rfl := Option.some.inj H
  go_enter Tryz.func163, Tryz.ntmps163
  go_wp2
  go_ret
  exact ⟨dq12, dq19⟩
 rw [if_neg c2] at H
 have c2b0 := beq_eq_false_iff_ne.mpr c2
 have c2b1 := bne_iff_ne.mpr c2
 by_cases c3 : a0 = 10
 ·rw [if_pos c3] at H
  have c3b0 := beq_iff_eq.mpr c3
  have c3b1 := bne_eq_false_iff_eq.mpr c3
  clear c3
  obtain rfl := Option.some.inj H
  go_enter Tryz.func163, Tryz.ntmps163
  go_wp2
  go_ret
  exact ⟨dq12, dq19⟩
 rw [if_neg c3] at H
 have c3b0 := beq_eq_false_iff_ne.mpr c3
 have c3b1 := bne_iff_ne.mpr c3
 by_cases c4 : a0 = 13
 ·rw [if_pos c4] at H
  have c4b0 := beq_iff_eq.mpr c4
  have c4b1 := bne_eq_false_iff_eq.mpr c4
  clear c4
  obtain rfl := Option.some.inj H
  go_enter Tryz.func163, Tryz.ntmps163
  go_wp2
  go_ret
  exact ⟨dq12, dq19⟩
 rw [if_neg c4] at H
 have c4b0 := beq_eq_false_iff_ne.mpr c4
 have c4b1 := bne_iff_ne.mpr c4
 replace H := Option.bind_eq_some_iff.mp H
 obtain ⟨t356, A50, H⟩ := H
 replace H : (if t356 = true then (some true) else ((impl_in.f a0 57344 65533).bind fun t357 => (if t357 = true then (some true) else ((impl_in.f a0 65536 1114111).bind fun t358 => (some t358))))) = some r := H
 have A5 := Aside0.mk A50
 clear A50
 by_cases c6 : t356 = true
 ·subst c6
  have H1 : (some true) = some r := by rw [if_pos rfl] at H; exact H
  clear H
  have H := H1
  clear H1
  obtain rfl := Option.some.inj H
  go_enter Tryz.func163, Tryz.ntmps163
  go_wp2_with (first | (go_at_call 99; (with_reducible refine (impl_in.calls a0 32 55295 true _ A5.out).mono ?_); rintro e w' ⟨rfl, ⟨nd, rfl⟩⟩))
  go_ret
  exact ⟨dq12, dq19⟩
 replace c6 := Bool.eq_false_iff.mpr c6
 subst c6
 have H1 : ((impl_in.f a0 57344 65533).bind fun t357 => (if t357 = true then (some true) else ((impl_in.f a0 65536 1114111).bind fun t358 => (some t358)))) = some r := by rw [if_neg (show ¬ (false = true) by decide)] at H; exact H
 clear H
 have H := H1
 clear H1
 replace H := Option.bind_eq_some_iff.mp H
 obtain ⟨t357, A70, H⟩ := H
 replace H : (if t357 = true then (some true) else ((impl_in.f a0 65536 1114111).bind fun t358 => (some t358))) = some r := H
 have A7 := Aside0.mk A70
 clear A70
 by_cases c8 : t357 = true
 ·subst c8
  have H1 : (some true) = some r := by rw [if_pos rfl] at H; exact H
  clear H
  have H := H1
  clear H1
  obtain rfl := Option.some.inj H
  go_enter Tryz.func163, Tryz.ntmps163
  go_wp2_with (first | (go_at_call 99; (with_reducible refine (impl_in.calls a0 32 55295 false _ A5.out).mono ?_); rintro e w' ⟨rfl, ⟨nd, rfl⟩⟩) | (go_at_call 99; (with_reducible refine (impl_in.calls a0 57344 65533 true _ A7.out).mono ?_); rintro e w' ⟨rfl, ⟨nd, rfl⟩⟩))
  go_ret
  exact ⟨dq12, dq19⟩
 replace c8 := Bool.eq_false_iff.mpr c8
 subst c8
 have H1 : ((impl_in.f a0 65536 1114111).bind fun t358 => (some t358)) = some r := by rw [if_neg (show ¬ (false = true) by decide)] at H; exact H
 clear H
 have H := H1
 clear H1
 replace H := Option.bind_eq_some_iff.mp H
 obtain ⟨t358, A90, H⟩ := H
 replace H : (some t358) = some r := H
 have A9 := Aside0.mk A90
 clear A90
 obtain rfl := Option.some.inj H
 go_enter Tryz.func163, Tryz.ntmps163
 go_wp2_with (first | (go_at_call 99; (with_reducible refine (impl_in.calls a0 32 55295 false _ A5.out).mono ?_); rintro e w' ⟨rfl, ⟨nd, rfl⟩⟩) | (go_at_call 99; (with_reducible refine (impl_in.calls a0 57344 65533 false _ A7.out).mono ?_); rintro e w' ⟨rfl, ⟨nd, rfl⟩⟩) | (go_at_call 99; (with_reducible refine (impl_in.calls a0 65536 1114111 t358 _ A9.out).mono ?_); rintro e w' ⟨rfl, ⟨nd, rfl⟩⟩))
 go_ret
 exact ⟨dq12, dq19⟩

end Go.Proofs.YtpmjpbaeecnpiaaGreatDoor.L

namespace Go.Proofs
open Go.Shelf
def Tryz.lays196_ren : Go.Shelf.Ren := ⟨fun | 196 => 183 | 259 => 195 | n => n, fun | 9 => 9 | 4 => 4 | 3 => 3 | 5 => 5 | 12 => 12 | 119 => 201 | 0 => 0 | 46 => 178 | 139 => 233 | 138 => 232 | 53 => 176 | n => n, fun | 3 => 1 | 4 => 2 | n => n⟩
theorem Tryz.lays196 : Go.Proofs.Lays.n196 Tryz.prog Tryz.lays196_ren := {
  mixed := by kernel_rfl
  f196 := Tryz.func183.trans (congrArg some (by kernel_rfl))
  f259 := Tryz.func195.trans (congrArg some (by kernel_rfl))
  t0 := Tryz.underlying0
  a0 := Tryz.isAgg0
  z0 := Tryz.sizeOf0
  v0 := Tryz.zeroValue0
  t3 := Tryz.underlying3
  a3 := Tryz.isAgg3
  z3 := Tryz.sizeOf3
  v3 := Tryz.zeroValue3
  t4 := Tryz.underlying4
  a4 := Tryz.isAgg4
  z4 := Tryz.sizeOf4
  v4 := Tryz.zeroValue4
  t5 := Tryz.underlying5
  a5 := Tryz.isAgg5
  z5 := Tryz.sizeOf5
  v5 := Tryz.zeroValue5
  t9 := Tryz.underlying9
  a9 := Tryz.isAgg9
  z9 := Tryz.sizeOf9
  v9 := Tryz.zeroValue9
  t12 := Tryz.underlying12
  a12 := Tryz.isAgg12
  z12 := Tryz.sizeOf12
  v12 := Tryz.zeroValue12
  t46 := Tryz.underlying178
  a46 := Tryz.isAgg178
  z46 := Tryz.sizeOf178
  v46 := Tryz.zeroValue178
  t53 := Tryz.underlying176
  a53 := Tryz.isAgg176
  z53 := Tryz.sizeOf176
  v53 := Tryz.zeroValue176
  t119 := Tryz.underlying201
  a119 := Tryz.isAgg201
  z119 := Tryz.sizeOf201
  t138 := Tryz.underlying232
  a138 := Tryz.isAgg232
  z138 := Tryz.sizeOf232
  v138 := Tryz.zeroValue232
  t139 := Tryz.underlying233
  a139 := Tryz.isAgg233
  z139 := Tryz.sizeOf233
  v139 := Tryz.zeroValue233
  g3 := by kernel_rfl
  g4 := by kernel_rfl }
end Go.Proofs

namespace Go.Proofs.YtpmjpbaeecnpiaaGreatDoor.L
open Go.RowKit Go.Proofs.YtpmjpbaeecnpiaaGreatDoorW.PrintWords Go.Proofs.YtpmjpbaeecnpiaaGreatDoorW.PrintLast Go.Proofs.YtpmjpbaeecnpiaaGreatDoorW.PrintMore
set_option linter.unusedVariables false
set_option linter.unusedSimpArgs false

/-- The characters from place pos on, at most fuel of them. -/
def runesFrom (s : ByteArray) : Nat → Nat → List Int
  | 0, _ => []
  | fuel + 1, pos => if pos < s.size then ((Utf8.decode s pos).1 : Int) :: runesFrom s fuel (pos + (Utf8.decode s pos).2) else []
def runesOf (s : ByteArray) : List Int := runesFrom s s.size 0
theorem runesFrom_end (s : ByteArray) (fuel pos : Nat) (h : ¬ pos < s.size) : runesFrom s fuel pos = [] := by
  cases fuel with
  | zero => rfl
  | succ f => simp [runesFrom, h]
theorem rune_width (s : ByteArray) (pos : Nat) (h : pos < s.size) : 1 ≤ (Utf8.decode s pos).2 := by
  by_cases ha : (s[pos]'h).toNat < 128
  · rw [decode_ascii s pos h ha]
    exact Nat.le_refl _
  · exact (decode_high s pos h (by omega)).2
def impl_Runes.f (a0 : ByteArray) : Option (List Int × Bool) :=
  if a0.size ≤ 9223372036854775807 then (if 20000 < a0.size then some ([], false) else if Lib.validD a0.data.toList = true then some (runesOf a0, true) else some ([], false)) else none
set_option maxHeartbeats 4000000 in
set_option maxRecDepth 100000 in
theorem impl_Runes.calls (a0 : ByteArray) (r1 : List Int) (r2 : Bool) (w : World) (hT : Gl w) (h : impl_Runes.f a0 = some (r1, r2)) :
    Calls Tryz.prog 162 #[.string a0] w fun e w' => ∃ v0_ : Value, e = .returned (.tuple #[v0_, .bool r2]) ∧ Kd.R (Kd.int .i64) 2 w' w.heap.size (fun _ => True) v0_ r1 ∧ Below w.heap.size w w' := by
  unfold impl_Runes.f at h
  by_cases hs : a0.size ≤ 9223372036854775807
  · rw [if_pos hs] at h
    by_cases c1 : 20000 < a0.size
    · rw [if_pos c1] at h
      simp only [Option.some.injEq, Prod.mk.injEq] at h
      obtain ⟨rfl, rfl⟩ := h
      have d1 : decide ((20000 : Int) < (a0.size : Int)) = true := decide_eq_true (by omega)
      go_enter Tryz.func162, Tryz.ntmps162
      go_wp2
      go_ret2
      exact ⟨_, rfl, Kd.R_nil _ _ _ _ _, Below.refl _ _⟩
    · rw [if_neg c1] at h
      have d1 : decide ((20000 : Int) < (a0.size : Int)) = false := decide_eq_false (by omega)
      have HV := fun q => Any.utf8_ValidString Tryz.lays196 a0 (w.drewN q) hs (Go.Proofs.Utf8Tabs_below hT.tabs (pw_below_drewN (Below.refl _ _) q))
      have HV0 := Any.utf8_ValidString Tryz.lays196 a0 w hs hT.tabs
      clear hT
      cases c2 : Lib.validD a0.data.toList with
      | false =>
        rw [c2] at h HV HV0
        simp only [Bool.false_eq_true, if_false, Option.some.injEq, Prod.mk.injEq] at h
        obtain ⟨rfl, rfl⟩ := h
        clear c2
        go_enter Tryz.func162, Tryz.ntmps162
        go_wp2_with (go_at_call 183; (first | refine HV0.mono ?_ | refine (HV _).mono ?_); rintro e w' ⟨rfl, hb⟩)
        go_ret2
        exact ⟨_, rfl, Kd.R_nil _ _ _ _ _, hb⟩
      | true =>
        rw [c2] at h HV HV0
        simp only [if_true, Option.some.injEq, Prod.mk.injEq] at h
        obtain ⟨rfl, rfl⟩ := h
        clear c2
        have HB := Aside0.mk (Below.refl w.heap.size w)
        go_enter Tryz.func162, Tryz.ntmps162
        go_wp2_with (first | (go_at_call 183; (first | refine HV0.mono ?_ | refine (HV _).mono ?_); rintro e w' ⟨rfl, hb⟩; have n1_ := Aside0.mk hb; clear HB; have HB := n1_; clear n1_ hb) | ((with_reducible refine gate_dst (N := 15) rfl ?_); refine Kd.R_lit (Kd.int .i64) _ 2 ?hg (N := 15) ?hd (xs := ([] : List Int)) (inner := []) (ok := fun _ => True) (okp := fun _ => True) ?hr ?hp (fun _ hk => hk) trivial (Below.refl _ _) (Nat.le_refl _) (by simp) ?_; (case hd => rfl); (case hg => rfl); (case hr => first | (go_simp; done) | (go_simp; rfl)); (case hp => exact (Reps.none _ _)); intro v109 w3 ho4 hb hg_ hnew_; clear hg_ hnew_; have n0_ := Aside0.mk (Kd.R_lower ho4 (below_size (by repeat (first | (with_reducible first | exact HB.out | apply below_alloc | apply pw_below_drewN | apply below_drew1) | exact HB.out)))); have n1_ := Aside0.mk (below_step (by repeat (first | (with_reducible first | exact HB.out | apply below_alloc | apply pw_below_drewN | apply below_drew1) | exact HB.out)) hb); clear HB; have HO110 := n0_; have HB := n1_; clear n0_ n1_; clear hb ho4))
        clear HV HV0
        have HBs := Aside0.mk HB.out.size
        go_loopw [4] (fun s4 wr => ∃ (pos fuel : Nat) (acc : List Int), Aside0 (Kd.R (Kd.int .i64) 2 wr w.heap.size (fun k => k ≠ w3.heap.size) s4 acc) ∧ wr.heap[w3.heap.size]? = some (.stringIter a0 pos) ∧ Aside0 (Below w.heap.size w wr) ∧ Aside0 (acc ++ runesFrom a0 fuel pos = runesOf a0) ∧ Aside0 (a0.size ≤ pos + fuel) ∧ Aside0 (acc.length ≤ pos)) (fun _ wr => a0.size - wr.iterPos w3.heap.size)
        case atStart =>
          refine ⟨0, a0.size, [], ⟨?_⟩, World.iter_heap w3 a0 0, ⟨?_⟩, ⟨rfl⟩, ⟨by omega⟩, ⟨Nat.le_refl _⟩⟩
          · exact Kd.R_mono (Kd.R_below (Kd.R_bound HO110.out) (below_alloc (Below.refl _ _) _)) (fun k hk => by have := hk.2.2.1; omega)
          · exact HB.out.trans (Below.mono (below_alloc (Below.refl _ _) _) HBs.out)
        case round =>
          obtain ⟨pos, fuel, acc, HO, hit, HB, HA, HF, HL⟩ := hrel
          by_cases hp : pos < a0.size
          · have hnx : ∀ ty, (Instr.next (.pointer (some ⟨w3.heap.size, 0, none⟩)) true ty).run Tryz.prog wr = _ := fun ty => Lib.run_next_any_at wr w3.heap.size a0 pos ty hit hp
            have hwd := Aside0.mk (rune_width a0 pos hp)
            have hd1 := Aside0.mk (decode_le a0 pos)
            have HO2 := Aside0.mk (Kd.R_move HO.out (fun k hk => Lib.iterAt_other wr w3.heap.size k a0 (pos + (Utf8.decode a0 pos).2) hk))
            have hit2 := Aside0.mk (Lib.iterAt_heap wr w3.heap.size a0 pos (pos + (Utf8.decode a0 pos).2) hit)
            have HB2 := Aside0.mk (Lib.below_iterAt HB.out HBs.out a0 (pos + (Utf8.decode a0 pos).2))
            have hpp := Aside0.mk hp
            have hsz := Aside0.mk hs
            clear HO HB
            have hsmall := Aside0.mk (show a0.size ≤ 20000 by omega)
            have hwr : wrap64 ((Utf8.decode a0 pos).1 : Int) = ((Utf8.decode a0 pos).1 : Int) := by have := hd1.out; unfold wrap64; omega
            go_wp2_with (first | ((with_reducible refine gate_builtin (b := .append) (xs := #[.tmp 21, .tmp 24]) rfl ?_); at_builtin; refine Kd.R_append (Kd.int .i64) (w0 := w) w.heap.size rfl (.tmp 21) (.tmp 24) 47 2 (.int .i64 0) 8 rfl Tryz.underlying47 info2 rfl (by decide) (by omega) u4 acc ((Utf8.decode a0 pos).1 : Int) [.int .i64 ((Utf8.decode a0 pos).1 : Int)] (fun k => k ≠ w3.heap.size) (fun _ => False) rfl rfl ?aP (fun _ hk => hk.elim) ?aF ?aO ?aB ?aS ?aL ?_; (case aP => exact rfl); (case aB => exact HB2.out); (case aF => exact (fun k hk => by have h1 := (Array.getElem?_eq_some_iff.1 hit2.out).1; omega)); (case aO => exact HO2.out); (case aS => exact HB2.out.size); (case aL => have := HL.out; have := hpp.out; have := hsmall.out; omega); intro v114 w11 ho hb hg hat; have n0_ := Aside0.mk hb; have n1_ := Aside0.mk ho; have n2_ := Aside0.mk ((hg.block w3.heap.size (Array.getElem?_eq_some_iff.1 hit2.out).1 (fun e => HO2.out.1 w3.heap.size e.symm rfl)).trans hit2.out); have HB := n0_; have HO := n1_; have HI := n2_; clear n0_ n1_ n2_; clear ho hb hg hat))
            go_roundw
            case rel =>
              obtain ⟨f, hf⟩ : ∃ f, fuel = f + 1 := ⟨fuel - 1, by have := HF.out; have := hpp.out; omega⟩
              refine ⟨pos + (Utf8.decode a0 pos).2, f, acc ++ [((Utf8.decode a0 pos).1 : Int)], HO, HI.out, HB, ⟨?_⟩, ⟨?_⟩, ⟨?_⟩⟩
              · have e := HA.out
                rw [hf] at e
                rw [← e]
                simp [runesFrom, hpp.out]
              · have := HF.out; have := hwd.out; omega
              · have := HL.out; have := hwd.out; simp; omega
            case measure =>
              have := hwd.out; have := hpp.out
              simp only [World.iterPos, HI.out, hit]
              omega
          · have hnx : ∀ ty, (Instr.next (.pointer (some ⟨w3.heap.size, 0, none⟩)) true ty).run Tryz.prog wr = _ := fun ty => Lib.run_next_end_at wr w3.heap.size a0 pos ty hit hp
            go_wp2
            go_ret2
            have e := HA.out
            rw [runesFrom_end a0 fuel pos hp, List.append_nil] at e
            rw [e] at HO
            exact ⟨_, rfl, Kd.R_mono HO.out (fun _ _ => trivial), HB.out⟩
  · rw [if_neg hs] at h
    cases h
end Go.Proofs.YtpmjpbaeecnpiaaGreatDoor.L

namespace Go.Proofs.YtpmjpbaeecnpiaaGreatDoor.L
open Go.RowKit Go.Proofs.YtpmjpbaeecnpiaaGreatDoorW.PrintWords Go.Proofs.YtpmjpbaeecnpiaaGreatDoorW.PrintLast Go.Proofs.YtpmjpbaeecnpiaaGreatDoorW.PrintMore
attribute [local go_sem] max2_int min2_int max_two min_two max_three min_three max_four min_four
set_option linter.unusedVariables false
set_option linter.unusedSimpArgs false

/-! ### impl_isPlain: function 141 -/
def impl_isPlain.l0 : Nat → Bool → List Int → Int → Int → Option (Bool)
 | 0, _, _, _, _ => none
 | k + 1, x4, x12, x13, x14 => if x14 < x13 then (if 0 ≤ x14 then (if x14 < (x12.length : Int) then (if x4 = true then ((impl_CharOk.f (rd x12 x14)).bind fun t364 => (impl_isPlain.l0 k t364 x12 x13 (wrap64 (x14 + 1)))) else (impl_isPlain.l0 k false x12 x13 (wrap64 (x14 + 1)))) else (none)) else (none)) else (some x4)
def impl_isPlain.f (k : Nat) (a0 : ByteArray) : Option (Bool) := (impl_Runes.f a0).bind fun bt359 => (impl_isPlain.l0 k bt359.2 bt359.1 (bt359.1.length : Int) 0)
set_option maxHeartbeats 8000000 in
set_option maxRecDepth 100000 in
theorem impl_isPlain.calls (k : Nat) (a0 : ByteArray) (r : Bool) (w : World) (hT : Gl w) (h : impl_isPlain.f k a0 = some r) :
  Calls Tryz.prog 141 #[.string a0] w fun e w' => e = .returned (.bool r) ∧ Below w.heap.size w w' := by
 have HT := Aside0.mk hT
 clear hT
 have HB := Aside0.mk (Below.refl w.heap.size w)
 have H : ((impl_Runes.f a0).bind fun bt359 => (impl_isPlain.l0 k bt359.2 bt359.1 (bt359.1.length : Int) 0)) = some r := h
 clear h
 replace H := Option.bind_eq_some_iff.mp H
 obtain ⟨⟨t359, t360⟩, A20, H⟩ := H
 replace H : (impl_isPlain.l0 k t360 t359 (t359.length : Int) 0) = some r := H
 have A2 := Aside0.mk A20
 clear A20
 have H' := Aside0.mk H
 clear H
 go_enter Tryz.func141, Tryz.ntmps141
 go_wp2_with (first | ((with_reducible refine gate_callee (f := 162) rfl ?_); refine goesL_ (some 9) rfl rfl Tryz.func162 dq15 rfl #[.string a0] rfl dq14 ?_; (with_reducible refine (impl_Runes.calls a0 t359 t360 _ ?side1 A2.out).mono ?_); (case side1 => exact dq4); rintro e w3 ⟨v361, rfl, ho0, hb⟩; refine ⟨_, rfl, ?_⟩; have n0_ := Aside0.mk (Kd.R_lower ho0 (below_size dq9)); have n1_ := Aside0.mk (below_step dq9 hb); clear HB; have HO362 := n0_; have HB := n1_; clear n0_ n1_; (try clear hb); (try clear hb2); (try clear hk); (try clear hi); (try clear ho0); obtain ⟨Ao4, co4, eo4⟩ := Kd.R_slice HO362.out; subst eo4))
 go_loopg [4, 14] k (fun kq v4 v14 w' => ∃ (x4_1 : Bool) (x14_1 : Int), v4 = .bool x4_1 ∧ v14 = .int .i64 x14_1 ∧ Aside0 (impl_isPlain.l0 kq x4_1 t359 (t359.length : Int) x14_1 = some r) ∧ Aside0 (kq ≤ k) ∧ Aside0 (Kd.R (Kd.int .i64) 2 w' w.heap.size (fun _ => True) (.slice Ao4 t359.length co4) t359) ∧ Aside0 (Below w.heap.size w w'))
 case atStart => exact ⟨(t360), (0), dq12, dq12, H', ⟨Nat.le_refl _⟩, ⟨by (with_reducible repeat (first | apply Kd.R_alloc | apply Kd.R_drewN | apply Kd.R_drew)); exact HO362.out⟩, ⟨dq9⟩⟩
 clear H'
 try clear c1
 try clear p2
 obtain ⟨x4_1, x14_1, rfl, rfl, HA, HK1, HO_12, HB⟩ := hrel
 cases gk with
 | zero => exact absurd HA.out (by simp [impl_isPlain.l0])
 | succ k1 =>
  have H := HA.out
  clear HA
  simp only [impl_isPlain.l0] at H
  by_cases c5 : x14_1 < (t359.length : Int)
  rotate_left
  ·rw [if_neg c5] at H
   have c5b0 := decide_eq_false c5
   clear c5
   obtain rfl := Option.some.inj H
   go_wp2
   go_ret
   exact ⟨dq11, dq9⟩
  rw [if_pos c5] at H
  have c5b0 := decide_eq_true c5
  clear c5
  by_cases c6 : 0 ≤ x14_1
  rotate_left
  ·rw [if_neg c6] at H
   exact absurd H dq17
  rw [if_pos c6] at H
  have c6b0 := decide_eq_true c6
  clear c6
  by_cases c7 : x14_1 < (t359.length : Int)
  rotate_left
  ·rw [if_neg c7] at H
   exact absurd H dq17
  rw [if_pos c7] at H
  have c7b0 := decide_eq_true c7
  clear c7
  by_cases c8 : x4_1 = true
  rotate_left
  ·replace c8 := Bool.eq_false_iff.mpr c8
   subst c8
   have H1 : (impl_isPlain.l0 k1 false t359 (t359.length : Int) (wrap64 (x14_1 + 1))) = some r := by rw [if_neg (show ¬ (false = true) by decide)] at H; exact H
   clear H
   have H := H1
   clear H1
   have H' := Aside0.mk H
   clear H
   have p363 : 0 ≤ (x14_1 : Int) := of_decide_eq_true dq13
   have q363 : x14_1 < (t359.length : Int) := of_decide_eq_true dq13
   obtain ⟨ad363, e363, hx363_0⟩ := Kd.at_int (Kd.R_reads' HO_12.out).2.2 x14_1 p363 q363
   cases e363
   replace p363 := eq_true p363
   replace q363 := eq_true q363
   go_wp2
   go_roundg k1
   case measure => have := HK1.out; omega
   case rel => exact ⟨(false), (wrap64 (x14_1 + 1)), dq12, dq12, H', ⟨dq16⟩, ⟨by (with_reducible repeat (first | apply Kd.R_alloc | apply Kd.R_drewN | apply Kd.R_drew)); exact HO_12.out⟩, ⟨dq9⟩⟩
  subst c8
  have H1 : ((impl_CharOk.f (rd t359 x14_1)).bind fun t364 => (impl_isPlain.l0 k1 t364 t359 (t359.length : Int) (wrap64 (x14_1 + 1)))) = some r := by rw [if_pos rfl] at H; exact H
  clear H
  have H := H1
  clear H1
  replace H := Option.bind_eq_some_iff.mp H
  obtain ⟨t364, A90, H⟩ := H
  replace H : (impl_isPlain.l0 k1 t364 t359 (t359.length : Int) (wrap64 (x14_1 + 1))) = some r := H
  have A9 := Aside0.mk A90
  clear A90
  have H' := Aside0.mk H
  clear H
  have p363 : 0 ≤ (x14_1 : Int) := of_decide_eq_true dq13
  have q363 : x14_1 < (t359.length : Int) := of_decide_eq_true dq13
  obtain ⟨ad363, e363, hx363_0⟩ := Kd.at_int (Kd.R_reads' HO_12.out).2.2 x14_1 p363 q363
  cases e363
  replace p363 := eq_true p363
  replace q363 := eq_true q363
  go_wp2_with (first | (go_at_call 163; (with_reducible refine (impl_CharOk.calls (rd t359 x14_1) t364 _ A9.out).mono ?_); rintro e w' ⟨rfl, ⟨nd, rfl⟩⟩))
  go_roundg k1
  case measure => have := HK1.out; omega
  case rel => exact ⟨(t364), (wrap64 (x14_1 + 1)), dq12, dq12, H', ⟨dq16⟩, ⟨by (with_reducible repeat (first | apply Kd.R_alloc | apply Kd.R_drewN | apply Kd.R_drew)); exact HO_12.out⟩, ⟨dq9⟩⟩

/-! ### impl_Split: function 164 -/
def impl_Split.j0 : Nat → ByteArray → ByteArray → ByteArray → Bool → Bool → Option (ByteArray × ByteArray × Bool)
 | 0, _, _, _, _, _ => none
 | k + 1, x0, x5, x6, x7, x14 => if x14 = true then (some ((⟨#[]⟩ : ByteArray), x0, true)) else (if x7 = true then ((impl_NameOk.f k x5).bind fun t369 => (if t369 = true then ((impl_NameOk.f k x6).bind fun t370 => (if t370 = true then (some (x5, x6, true)) else (some ((⟨#[]⟩ : ByteArray), (⟨#[]⟩ : ByteArray), false)))) else (some ((⟨#[]⟩ : ByteArray), (⟨#[]⟩ : ByteArray), false)))) else (some ((⟨#[]⟩ : ByteArray), (⟨#[]⟩ : ByteArray), false)))
def impl_Split.f (k : Nat) (a0 : ByteArray) : Option (ByteArray × ByteArray × Bool) := (strings_Cut.f a0 (⟨#[58]⟩ : ByteArray)).bind fun bt365 => (if bt365.2.2 = true then (impl_Split.j0 k a0 bt365.1 bt365.2.1 bt365.2.2 false) else ((impl_NameOk.f k a0).bind fun t368 => (impl_Split.j0 k a0 bt365.1 bt365.2.1 bt365.2.2 t368)))
set_option maxHeartbeats 8000000 in
set_option maxRecDepth 100000 in
theorem impl_Split.calls (k : Nat) (a0 : ByteArray) (r1 : ByteArray) (r2 : ByteArray) (r3 : Bool) (w : World) (h : impl_Split.f k a0 = some (r1, r2, r3)) :
  Calls Tryz.prog 164 #[.string a0] w fun e w' => e = .returned (.tuple #[.string r1, .string r2, .bool r3]) ∧ Below w.heap.size w w' := by
 have HB := Aside0.mk (Below.refl w.heap.size w)
 have H : ((strings_Cut.f a0 (⟨#[58]⟩ : ByteArray)).bind fun bt365 => (if bt365.2.2 = true then (impl_Split.j0 k a0 bt365.1 bt365.2.1 bt365.2.2 false) else ((impl_NameOk.f k a0).bind fun t368 => (impl_Split.j0 k a0 bt365.1 bt365.2.1 bt365.2.2 t368)))) = some (r1, r2, r3) := h
 clear h
 replace H := Option.bind_eq_some_iff.mp H
 obtain ⟨⟨t365, t366, t367⟩, A20, H⟩ := H
 replace H : (if t367 = true then (impl_Split.j0 k a0 t365 t366 t367 false) else ((impl_NameOk.f k a0).bind fun t368 => (impl_Split.j0 k a0 t365 t366 t367 t368))) = some (r1, r2, r3) := H
 have A2 := Aside0.mk A20
 clear A20
 have HC3 := Aside0.mk H
 clear H
 go_enter Tryz.func164, Tryz.ntmps164
 go_upto_region 2 with (first | ((with_reducible refine gate_callee (f := 95) rfl ?_); refine goesL_ (some 10) rfl rfl Tryz.func95 dq15 rfl #[.string a0, .string (⟨#[58]⟩ : ByteArray)] rfl dq14 ?_; (with_reducible refine (strings_Cut.calls a0 (⟨#[58]⟩ : ByteArray) t365 t366 t367 _ A2.out).mono ?_); rintro e w4 ⟨rfl, hb⟩; refine ⟨_, rfl, ?_⟩; have n0_ := Aside0.mk (below_step dq9 hb); clear HB; have HB := n0_; clear n0_; (try clear hb); (try clear hb2); (try clear hk); (try clear hi)))
 (try simp only [Act.put, List.setIfInBounds_toArray, List.set_cons_zero, List.set_cons_succ])
 go_cut [14] (fun v14 wc => ∃ (kq : Nat) (x14_2 : Bool), v14 = .bool x14_2 ∧ Aside0 (impl_Split.j0 kq a0 t365 t366 t367 x14_2 = some (r1, r2, r3)) ∧ Aside0 (kq ≤ k) ∧ Aside0 (Below w.heap.size w wc))
 case first =>
  have H := HC3.out
  clear HC3
  by_cases c5 : t367 = true
  ·subst c5
   have H1 : (impl_Split.j0 k a0 t365 t366 true false) = some (r1, r2, r3) := by rw [if_pos rfl] at H; exact H
   clear H
   have H := H1
   clear H1
   have H' := Aside0.mk H
   clear H
   go_wp2
   go_meet
   case rel => exact ⟨_, (false), dq12, H', ⟨dq21⟩, ⟨dq9⟩⟩
  replace c5 := Bool.eq_false_iff.mpr c5
  subst c5
  have H1 : ((impl_NameOk.f k a0).bind fun t368 => (impl_Split.j0 k a0 t365 t366 false t368)) = some (r1, r2, r3) := by rw [if_neg (show ¬ (false = true) by decide)] at H; exact H
  clear H
  have H := H1
  clear H1
  replace H := Option.bind_eq_some_iff.mp H
  obtain ⟨t368, A60, H⟩ := H
  replace H : (impl_Split.j0 k a0 t365 t366 false t368) = some (r1, r2, r3) := H
  have A6 := Aside0.mk A60
  clear A60
  have H' := Aside0.mk H
  clear H
  go_wp2_with (first | (go_at_call 96; (with_reducible refine (impl_NameOk.calls k a0 t368 _ A6.out).mono ?_); rintro e w' ⟨rfl, ⟨nd, rfl⟩⟩))
  go_meet
  case rel => exact ⟨_, (t368), dq12, H', ⟨dq21⟩, ⟨dq9⟩⟩
 clear HC3
 obtain ⟨kq, x14_2, rfl, HA, HJ2, HB⟩ := hcut
 cases kq with
 | zero => exact absurd HA.out (by simp [impl_Split.j0])
 | succ kj2 =>
  have H := HA.out
  clear HA
  simp only [impl_Split.j0] at H
  by_cases c7 : x14_2 = true
  ·subst c7
   have H1 : (some ((⟨#[]⟩ : ByteArray), a0, true)) = some (r1, r2, r3) := by rw [if_pos rfl] at H; exact H
   clear H
   have H := H1
   clear H1
   simp only [Option.some.injEq, Prod.mk.injEq] at H
   obtain ⟨rfl, rfl, rfl⟩ := H
   go_wp2
   go_ret3
   exact ⟨dq11, dq9⟩
  replace c7 := Bool.eq_false_iff.mpr c7
  subst c7
  have H1 : (if t367 = true then ((impl_NameOk.f kj2 t365).bind fun t369 => (if t369 = true then ((impl_NameOk.f kj2 t366).bind fun t370 => (if t370 = true then (some (t365, t366, true)) else (some ((⟨#[]⟩ : ByteArray), (⟨#[]⟩ : ByteArray), false)))) else (some ((⟨#[]⟩ : ByteArray), (⟨#[]⟩ : ByteArray), false)))) else (some ((⟨#[]⟩ : ByteArray), (⟨#[]⟩ : ByteArray), false))) = some (r1, r2, r3) := by rw [if_neg (show ¬ (false = true) by decide)] at H; exact H
  clear H
  have H := H1
  clear H1
  by_cases c8 : t367 = true
  rotate_left
  ·replace c8 := Bool.eq_false_iff.mpr c8
   subst c8
   have H1 : (some ((⟨#[]⟩ : ByteArray), (⟨#[]⟩ : ByteArray), false)) = some (r1, r2, r3) := by rw [if_neg (show ¬ (false = true) by decide)] at H; exact H
   clear H
   have H := H1
   clear H1
   simp only [Option.some.injEq, Prod.mk.injEq] at H
   obtain ⟨rfl, rfl, rfl⟩ := H
   go_wp2
   go_ret3
   exact ⟨dq11, dq9⟩
  subst c8
  have H1 : ((impl_NameOk.f kj2 t365).bind fun t369 => (if t369 = true then ((impl_NameOk.f kj2 t366).bind fun t370 => (if t370 = true then (some (t365, t366, true)) else (some ((⟨#[]⟩ : ByteArray), (⟨#[]⟩ : ByteArray), false)))) else (some ((⟨#[]⟩ : ByteArray), (⟨#[]⟩ : ByteArray), false)))) = some (r1, r2, r3) := by rw [if_pos rfl] at H; exact H
  clear H
  have H := H1
  clear H1
  replace H := Option.bind_eq_some_iff.mp H
  obtain ⟨t369, A90, H⟩ := H
  replace H : (if t369 = true then ((impl_NameOk.f kj2 t366).bind fun t370 => (if t370 = true then (some (t365, t366, true)) else (some ((⟨#[]⟩ : ByteArray), (⟨#[]⟩ : ByteArray), false)))) else (some ((⟨#[]⟩ : ByteArray), (⟨#[]⟩ : ByteArray), false))) = some (r1, r2, r3) := H
  have A9 := Aside0.mk A90
  clear A90
  by_cases c10 : t369 = true
  rotate_left
  ·replace c10 := Bool.eq_false_iff.mpr c10
   subst c10
   have H1 : (some ((⟨#[]⟩ : ByteArray), (⟨#[]⟩ : ByteArray), false)) = some (r1, r2, r3) := by rw [if_neg (show ¬ (false = true) by decide)] at H; exact H
   clear H
   have H := H1
   clear H1
   simp only [Option.some.injEq, Prod.mk.injEq] at H
   obtain ⟨rfl, rfl, rfl⟩ := H
   go_wp2_with (first | (go_at_call 96; (with_reducible refine (impl_NameOk.calls kj2 t365 false _ A9.out).mono ?_); rintro e w' ⟨rfl, ⟨nd, rfl⟩⟩))
   go_ret3
   exact ⟨dq11, dq9⟩
  subst c10
  have H1 : ((impl_NameOk.f kj2 t366).bind fun t370 => (if t370 = true then (some (t365, t366, true)) else (some ((⟨#[]⟩ : ByteArray), (⟨#[]⟩ : ByteArray), false)))) = some (r1, r2, r3) := by rw [if_pos rfl] at H; exact H
  clear H
  have H := H1
  clear H1
  replace H := Option.bind_eq_some_iff.mp H
  obtain ⟨t370, A110, H⟩ := H
  replace H : (if t370 = true then (some (t365, t366, true)) else (some ((⟨#[]⟩ : ByteArray), (⟨#[]⟩ : ByteArray), false))) = some (r1, r2, r3) := H
  have A11 := Aside0.mk A110
  clear A110
  by_cases c12 : t370 = true
  ·subst c12
   have H1 : (some (t365, t366, true)) = some (r1, r2, r3) := by rw [if_pos rfl] at H; exact H
   clear H
   have H := H1
   clear H1
   simp only [Option.some.injEq, Prod.mk.injEq] at H
   obtain ⟨rfl, rfl, rfl⟩ := H
   go_wp2_with (first | (go_at_call 96; (with_reducible refine (impl_NameOk.calls kj2 t365 true _ A9.out).mono ?_); rintro e w' ⟨rfl, ⟨nd, rfl⟩⟩) | (go_at_call 96; (with_reducible refine (impl_NameOk.calls kj2 t366 true _ A11.out).mono ?_); rintro e w' ⟨rfl, ⟨nd, rfl⟩⟩))
   go_ret3
   exact ⟨dq11, dq9⟩
  replace c12 := Bool.eq_false_iff.mpr c12
  subst c12
  have H1 : (some ((⟨#[]⟩ : ByteArray), (⟨#[]⟩ : ByteArray), false)) = some (r1, r2, r3) := by rw [if_neg (show ¬ (false = true) by decide)] at H; exact H
  clear H
  have H := H1
  clear H1
  simp only [Option.some.injEq, Prod.mk.injEq] at H
  obtain ⟨rfl, rfl, rfl⟩ := H
  go_wp2_with (first | (go_at_call 96; (with_reducible refine (impl_NameOk.calls kj2 t365 true _ A9.out).mono ?_); rintro e w' ⟨rfl, ⟨nd, rfl⟩⟩) | (go_at_call 96; (with_reducible refine (impl_NameOk.calls kj2 t366 false _ A11.out).mono ?_); rintro e w' ⟨rfl, ⟨nd, rfl⟩⟩))
  go_ret3
  exact ⟨dq11, dq9⟩

/-! ### impl_isQualified: function 142 -/
def impl_isQualified.f (k : Nat) (a0 : ByteArray) : Option (Bool) := (impl_Split.f k a0).bind fun bt371 => (some bt371.2.2)
set_option maxHeartbeats 8000000 in
set_option maxRecDepth 100000 in
theorem impl_isQualified.calls (k : Nat) (a0 : ByteArray) (r : Bool) (w : World) (h : impl_isQualified.f k a0 = some r) :
  Calls Tryz.prog 142 #[.string a0] w fun e w' => e = .returned (.bool r) ∧ Below w.heap.size w w' := by
 have HB := Aside0.mk (Below.refl w.heap.size w)
 have H : ((impl_Split.f k a0).bind fun bt371 => (some bt371.2.2)) = some r := h
 clear h
 replace H := Option.bind_eq_some_iff.mp H
 obtain ⟨⟨t371, t372, t373⟩, A20, H⟩ := H
 replace H : (some t373) = some r := H
 have A2 := Aside0.mk A20
 clear A20
 obtain rfl := Option.some.inj H
 go_enter Tryz.func142, Tryz.ntmps142
 go_wp2_with (first | ((with_reducible refine gate_callee (f := 164) rfl ?_); refine goesL_ (some 8) rfl rfl Tryz.func164 dq15 rfl #[.string a0] rfl dq14 ?_; (with_reducible refine (impl_Split.calls k a0 t371 t372 t373 _ A2.out).mono ?_); rintro e w3 ⟨rfl, hb⟩; refine ⟨_, rfl, ?_⟩; have n0_ := Aside0.mk (below_step dq9 hb); clear HB; have HB := n0_; clear n0_; (try clear hb); (try clear hb2); (try clear hk); (try clear hi)))
 go_ret
 exact ⟨dq11, dq9⟩

/-! ### impl_Item_isGood: function 104 -/
mutual
def impl_Item_isGood.j0 : Nat → Bool → Int → ByteArray → ByteArray → List (S67) → Option (Bool)
 | 0, _, _, _, _, _ => none
 | k + 1, x38, x375000, x375001, x375002, x375003 => if x38 = true then (some false) else (impl_Item_isGood.l0 k x375003 (x375003.length : Int) 0 x375000 x375001 x375002 x375003)
def impl_Item_isGood.l0 : Nat → List (S67) → Int → Int → Int → ByteArray → ByteArray → List (S67) → Option (Bool)
 | 0, _, _, _, _, _, _, _ => none
 | k + 1, x40, x41, x42, x375000, x375001, x375002, x375003 => if x42 < x41 then (if 0 ≤ x42 then (if x42 < (x40.length : Int) then ((impl_isQualified.f k ((rd_T67 x40 x42).f0)).bind fun t379 => (if t379 = true then ((impl_isPlain.f k ((rd_T67 x40 x42).f1)).bind fun t380 => (impl_Item_isGood.j2 k x42 x40 x41 x42 (!t380) x375000 x375001 x375002 x375003 ((rd_T67 x40 x42).f0) ((rd_T67 x40 x42).f1))) else (impl_Item_isGood.j2 k x42 x40 x41 x42 true x375000 x375001 x375002 x375003 ((rd_T67 x40 x42).f0) ((rd_T67 x40 x42).f1)))) else (none)) else (none)) else (some true)
def impl_Item_isGood.j2 : Nat → Int → List (S67) → Int → Int → Bool → Int → ByteArray → ByteArray → List (S67) → ByteArray → ByteArray → Option (Bool)
 | 0, _, _, _, _, _, _, _, _, _, _, _ => none
 | k + 1, x3, x40, x41, x42, x56, x375000, x375001, x375002, x375003, x379000, x379001 => if x56 = true then (some false) else (if 0 ≤ x3 then (if x3 ≤ (x375003.length : Int) then ((some (x375003.take (x3 : Int).toNat : List (S67))).bind fun y381 => (impl_Item_isGood.l1 k x40 x41 x42 y381 (y381.length : Int) 0 x375000 x375001 x375002 x375003 x379000 x379001)) else (none)) else (none))
def impl_Item_isGood.l1 : Nat → List (S67) → Int → Int → List (S67) → Int → Int → Int → ByteArray → ByteArray → List (S67) → ByteArray → ByteArray → Option (Bool)
 | 0, _, _, _, _, _, _, _, _, _, _, _, _ => none
 | k + 1, x40, x41, x42, x60, x61, x62, x375000, x375001, x375002, x375003, x379000, x379001 => if x62 < x61 then (if 0 ≤ x62 then (if x62 < (x60.length : Int) then (if x379000.toList = ((rd_T67 x60 x62).f0).toList then (some false) else (impl_Item_isGood.l1 k x40 x41 x42 x60 x61 (wrap64 (x62 + 1)) x375000 x375001 x375002 x375003 x379000 x379001)) else (none)) else (none)) else (impl_Item_isGood.l0 k x40 x41 (wrap64 (x42 + 1)) x375000 x375001 x375002 x375003)
end
def impl_Item_isGood.f (k : Nat) (a0_0 : Int) (a0_1 : ByteArray) (a0_2 : ByteArray) (l0_3 : List (S67)) : Option (Bool) := if a0_1.toList = ([] : List UInt8) then (if a0_2.toList = ([] : List UInt8) then (some false) else ((impl_isPlain.f k a0_2).bind fun t375 => (if t375 = true then (some ((l0_3.length : Int) == 0)) else (some false)))) else ((impl_isQualified.f k a0_1).bind fun t376 => (if t376 = true then (if a0_2.toList = ([] : List UInt8) then (impl_Item_isGood.j0 k (decide ((l0_3.length : Int) > 10)) a0_0 a0_1 a0_2 l0_3) else (impl_Item_isGood.j0 k true a0_0 a0_1 a0_2 l0_3)) else (impl_Item_isGood.j0 k true a0_0 a0_1 a0_2 l0_3)))
set_option maxHeartbeats 8000000 in
set_option maxRecDepth 100000 in
theorem impl_Item_isGood.calls (k : Nat) (a0_0 : Int) (a0_1 : ByteArray) (a0_2 : ByteArray) (A0_3 : Option Addr) (c0_3 : Nat) (l0_3 : List (S67)) (r : Bool) (w : World) (hT : Gl w) (hr0_3 : Kd.C k67 w A0_3 l0_3.length l0_3) (hc0_3 : l0_3.length ≤ c0_3) (h : impl_Item_isGood.f k a0_0 a0_1 a0_2 l0_3 = some r) :
  Calls Tryz.prog 104 #[.agg #[.int .i64 a0_0, .string a0_1, .string a0_2, .slice A0_3 l0_3.length c0_3]] w fun e w' => e = .returned (.bool r) ∧ Below w.heap.size w w' := by
 have hu65 := Tryz.underlying65
 have hu67 := Tryz.underlying67
 have HR0_3 := Aside0.mk hr0_3
 have HC0_3 := Aside0.mk hc0_3
 clear hr0_3 hc0_3
 have HT := Aside0.mk hT
 clear hT
 have HB := Aside0.mk (Below.refl w.heap.size w)
 have H : (if a0_1.toList = ([] : List UInt8) then (if a0_2.toList = ([] : List UInt8) then (some false) else ((impl_isPlain.f k a0_2).bind fun t375 => (if t375 = true then (some ((l0_3.length : Int) == 0)) else (some false)))) else ((impl_isQualified.f k a0_1).bind fun t376 => (if t376 = true then (if a0_2.toList = ([] : List UInt8) then (impl_Item_isGood.j0 k (decide ((l0_3.length : Int) > 10)) a0_0 a0_1 a0_2 l0_3) else (impl_Item_isGood.j0 k true a0_0 a0_1 a0_2 l0_3)) else (impl_Item_isGood.j0 k true a0_0 a0_1 a0_2 l0_3)))) = some r := h
 clear h
 by_cases c2 : a0_1.toList = ([] : List UInt8)
 ·rw [if_pos c2] at H
  have c2b0 := beq_iff_eq.mpr c2
  have c2b1 := bne_eq_false_iff_eq.mpr c2
  clear c2
  by_cases c3 : a0_2.toList = ([] : List UInt8)
  ·rw [if_pos c3] at H
   have c3b0 := beq_iff_eq.mpr c3
   have c3b1 := bne_eq_false_iff_eq.mpr c3
   clear c3
   obtain rfl := Option.some.inj H
   go_enter Tryz.func104, Tryz.ntmps104
   go_wp2_with (first | ((with_reducible refine gate_dst (N := 1) rfl ?_); (try (refine gate_guard (by rfl) ?_; dsimp only)); refine box_event ?hg (N := 1) ?hd (cs := #[.int .i64 a0_0, .string a0_1, .string a0_2, .slice A0_3 l0_3.length c0_3]) (t := 65) ?hr ?_; (case hd => rfl); (case hg => rfl); (case hr => exact dq0); intro gb374 hg w4 hbox hb; have n0_ := Aside0.mk (below_step dq9 hb); have n1_ := Aside0.mk (hbox); have n2_ := Aside0.mk ((dq8 : w.heap.size ≤ gb374)); have n3_ := Aside0.mk ((dq8 : w.heap.size ≤ gb374)); clear HB; have HB := n0_; have BK374 := n1_; have GW374 := n2_; have GE374 := n3_; clear n0_ n1_ n2_ n3_; clear hb hbox hg; obtain ⟨⟨hcz5_0, hcz5_1, hcz5_2, hcz5_3⟩, hfz5_0, hfz5_1, hfz5_2, hfz5_3⟩ := blkC4 BK374.out))
   go_ret
   exact ⟨dq11, dq67⟩
  rw [if_neg c3] at H
  have c3b0 := beq_eq_false_iff_ne.mpr c3
  have c3b1 := bne_iff_ne.mpr c3
  replace H := Option.bind_eq_some_iff.mp H
  obtain ⟨t375, A60, H⟩ := H
  replace H : (if t375 = true then (some ((l0_3.length : Int) == 0)) else (some false)) = some r := H
  have A6 := Aside0.mk A60
  clear A60
  by_cases c7 : t375 = true
  rotate_left
  ·replace c7 := Bool.eq_false_iff.mpr c7
   subst c7
   have H1 : (some false) = some r := by rw [if_neg (show ¬ (false = true) by decide)] at H; exact H
   clear H
   have H := H1
   clear H1
   obtain rfl := Option.some.inj H
   go_enter Tryz.func104, Tryz.ntmps104
   go_wp2_with (first | ((with_reducible refine gate_dst (N := 1) rfl ?_); (try (refine gate_guard (by rfl) ?_; dsimp only)); refine box_event ?hg (N := 1) ?hd (cs := #[.int .i64 a0_0, .string a0_1, .string a0_2, .slice A0_3 l0_3.length c0_3]) (t := 65) ?hr ?_; (case hd => rfl); (case hg => rfl); (case hr => exact dq0); intro gb374 hg w12 hbox hb; have n0_ := Aside0.mk (below_step dq9 hb); have n1_ := Aside0.mk (hbox); have n2_ := Aside0.mk ((dq8 : w.heap.size ≤ gb374)); have n3_ := Aside0.mk ((dq8 : w.heap.size ≤ gb374)); clear HB; have HB := n0_; have BK374 := n1_; have GW374 := n2_; have GE374 := n3_; clear n0_ n1_ n2_ n3_; clear hb hbox hg; obtain ⟨⟨hcz13_0, hcz13_1, hcz13_2, hcz13_3⟩, hfz13_0, hfz13_1, hfz13_2, hfz13_3⟩ := blkC4 BK374.out) | (go_at_call 141; (with_reducible refine (impl_isPlain.calls k a0_2 false _ ?side1 A6.out).mono ?_); (case side1 => exact dq5); rintro e w14 ⟨rfl, hb⟩; have n0_ := Aside0.mk (blk_below (g := gb374) (o := .cells #[.int .i64 a0_0, .string a0_1, .string a0_2, .slice A0_3 l0_3.length c0_3] 65 (0, 0)) dq68 hb); have n1_ := Aside0.mk (below_step dq67 hb); clear BK374; clear HB; have BK374 := n0_; have HB := n1_; clear n0_ n1_; (try clear hb); (try clear hb2); (try clear hk); (try clear hi)))
   go_ret
   exact ⟨dq11, dq67⟩
  subst c7
  have H1 : (some ((l0_3.length : Int) == 0)) = some r := by rw [if_pos rfl] at H; exact H
  clear H
  have H := H1
  clear H1
  obtain rfl := Option.some.inj H
  go_enter Tryz.func104, Tryz.ntmps104
  go_wp2_with (first | ((with_reducible refine gate_dst (N := 1) rfl ?_); (try (refine gate_guard (by rfl) ?_; dsimp only)); refine box_event ?hg (N := 1) ?hd (cs := #[.int .i64 a0_0, .string a0_1, .string a0_2, .slice A0_3 l0_3.length c0_3]) (t := 65) ?hr ?_; (case hd => rfl); (case hg => rfl); (case hr => exact dq0); intro gb374 hg w8 hbox hb; have n0_ := Aside0.mk (below_step dq9 hb); have n1_ := Aside0.mk (hbox); have n2_ := Aside0.mk ((dq8 : w.heap.size ≤ gb374)); have n3_ := Aside0.mk ((dq8 : w.heap.size ≤ gb374)); clear HB; have HB := n0_; have BK374 := n1_; have GW374 := n2_; have GE374 := n3_; clear n0_ n1_ n2_ n3_; clear hb hbox hg; obtain ⟨⟨hcz9_0, hcz9_1, hcz9_2, hcz9_3⟩, hfz9_0, hfz9_1, hfz9_2, hfz9_3⟩ := blkC4 BK374.out) | (go_at_call 141; (with_reducible refine (impl_isPlain.calls k a0_2 true _ ?side1 A6.out).mono ?_); (case side1 => exact dq5); rintro e w10 ⟨rfl, hb⟩; have n0_ := Aside0.mk (blk_below (g := gb374) (o := .cells #[.int .i64 a0_0, .string a0_1, .string a0_2, .slice A0_3 l0_3.length c0_3] 65 (0, 0)) dq68 hb); have n1_ := Aside0.mk (below_step dq67 hb); clear BK374; clear HB; have BK374 := n0_; have HB := n1_; clear n0_ n1_; (try clear hb); (try clear hb2); (try clear hk); (try clear hi); obtain ⟨⟨hcz11_0, hcz11_1, hcz11_2, hcz11_3⟩, hfz11_0, hfz11_1, hfz11_2, hfz11_3⟩ := blkC4 BK374.out))
  go_ret
  exact ⟨dq11, dq67⟩
 rw [if_neg c2] at H
 have c2b0 := beq_eq_false_iff_ne.mpr c2
 have c2b1 := bne_iff_ne.mpr c2
 have HC15 := Aside0.mk H
 clear H
 go_enter Tryz.func104, Tryz.ntmps104
 go_upto_region 3 with (first | ((with_reducible refine gate_dst (N := 1) rfl ?_); (try (refine gate_guard (by rfl) ?_; dsimp only)); refine box_event ?hg (N := 1) ?hd (cs := #[.int .i64 a0_0, .string a0_1, .string a0_2, .slice A0_3 l0_3.length c0_3]) (t := 65) ?hr ?_; (case hd => rfl); (case hg => rfl); (case hr => exact dq0); intro gb374 hg w16 hbox hb; have n0_ := Aside0.mk (below_step dq9 hb); have n1_ := Aside0.mk (hbox); have n2_ := Aside0.mk ((dq8 : w.heap.size ≤ gb374)); have n3_ := Aside0.mk ((dq8 : w.heap.size ≤ gb374)); clear HB; have HB := n0_; have BK374 := n1_; have GW374 := n2_; have GE374 := n3_; clear n0_ n1_ n2_ n3_; clear hb hbox hg; obtain ⟨⟨hcz17_0, hcz17_1, hcz17_2, hcz17_3⟩, hfz17_0, hfz17_1, hfz17_2, hfz17_3⟩ := blkC4 BK374.out))
 (try simp only [Act.put, List.setIfInBounds_toArray, List.set_cons_zero, List.set_cons_succ])
 go_cut [38] (fun v38 wc => ∃ (kq : Nat) (x38_14 : Bool), v38 = .bool x38_14 ∧ Aside0 (impl_Item_isGood.j0 kq x38_14 a0_0 a0_1 a0_2 l0_3 = some r) ∧ Aside0 (kq ≤ k) ∧ Aside0 (wc.heap[gb374]? = some (.cells #[.int .i64 a0_0, .string a0_1, .string a0_2, (.slice A0_3 l0_3.length c0_3)] 65 (0, 0))) ∧ Aside0 (Below w.heap.size w wc))
 case first =>
  have H := HC15.out
  clear HC15
  replace H := Option.bind_eq_some_iff.mp H
  obtain ⟨t376, A180, H⟩ := H
  replace H : (if t376 = true then (if a0_2.toList = ([] : List UInt8) then (impl_Item_isGood.j0 k (decide ((l0_3.length : Int) > 10)) a0_0 a0_1 a0_2 l0_3) else (impl_Item_isGood.j0 k true a0_0 a0_1 a0_2 l0_3)) else (impl_Item_isGood.j0 k true a0_0 a0_1 a0_2 l0_3)) = some r := H
  have A18 := Aside0.mk A180
  clear A180
  by_cases c19 : t376 = true
  rotate_left
  ·replace c19 := Bool.eq_false_iff.mpr c19
   subst c19
   have H1 : (impl_Item_isGood.j0 k true a0_0 a0_1 a0_2 l0_3) = some r := by rw [if_neg (show ¬ (false = true) by decide)] at H; exact H
   clear H
   have H := H1
   clear H1
   have H' := Aside0.mk H
   clear H
   obtain ⟨⟨hcz27_0, hcz27_1, hcz27_2, hcz27_3⟩, hfz27_0, hfz27_1, hfz27_2, hfz27_3⟩ := blkC4 BK374.out
   go_wp2_with (first | ((with_reducible refine gate_callee (f := 142) rfl ?_); refine goesL_ (some 26) rfl rfl Tryz.func142 dq15 rfl #[.string a0_1] rfl dq14 ?_; (with_reducible refine (impl_isQualified.calls k a0_1 false _ A18.out).mono ?_); rintro e w28 ⟨rfl, hb⟩; refine ⟨_, rfl, ?_⟩; have n0_ := Aside0.mk (blk_below (g := gb374) (o := .cells #[.int .i64 a0_0, .string a0_1, .string a0_2, .slice A0_3 l0_3.length c0_3] 65 (0, 0)) dq68 hb); have n1_ := Aside0.mk (below_step dq67 hb); clear BK374; clear HB; have BK374 := n0_; have HB := n1_; clear n0_ n1_; (try clear hb); (try clear hb2); (try clear hk); (try clear hi)))
   go_meet
   case rel => exact ⟨_, (true), dq12, H', ⟨dq21⟩, ⟨dq68⟩, ⟨dq67⟩⟩
  subst c19
  have H1 : (if a0_2.toList = ([] : List UInt8) then (impl_Item_isGood.j0 k (decide ((l0_3.length : Int) > 10)) a0_0 a0_1 a0_2 l0_3) else (impl_Item_isGood.j0 k true a0_0 a0_1 a0_2 l0_3)) = some r := by rw [if_pos rfl] at H; exact H
  clear H
  have H := H1
  clear H1
  by_cases c20 : a0_2.toList = ([] : List UInt8)
  rotate_left
  ·rw [if_neg c20] at H
   have c20b0 := beq_eq_false_iff_ne.mpr c20
   have c20b1 := bne_iff_ne.mpr c20
   (first | rw [c20b0] | (simp only [i64_w, i32_w]; rw [c20b0]) | skip)
   have H' := Aside0.mk H
   clear H
   obtain ⟨⟨hcz24_0, hcz24_1, hcz24_2, hcz24_3⟩, hfz24_0, hfz24_1, hfz24_2, hfz24_3⟩ := blkC4 BK374.out
   go_wp2_with (first | ((with_reducible refine gate_callee (f := 142) rfl ?_); refine goesL_ (some 26) rfl rfl Tryz.func142 dq15 rfl #[.string a0_1] rfl dq14 ?_; (with_reducible refine (impl_isQualified.calls k a0_1 true _ A18.out).mono ?_); rintro e w25 ⟨rfl, hb⟩; refine ⟨_, rfl, ?_⟩; have n0_ := Aside0.mk (blk_below (g := gb374) (o := .cells #[.int .i64 a0_0, .string a0_1, .string a0_2, .slice A0_3 l0_3.length c0_3] 65 (0, 0)) dq68 hb); have n1_ := Aside0.mk (below_step dq67 hb); clear BK374; clear HB; have BK374 := n0_; have HB := n1_; clear n0_ n1_; (try clear hb); (try clear hb2); (try clear hk); (try clear hi); obtain ⟨⟨hcz26_0, hcz26_1, hcz26_2, hcz26_3⟩, hfz26_0, hfz26_1, hfz26_2, hfz26_3⟩ := blkC4 BK374.out))
   go_meet
   case rel => exact ⟨_, (true), dq12, H', ⟨dq21⟩, ⟨dq68⟩, ⟨dq67⟩⟩
  rw [if_pos c20] at H
  have c20b0 := beq_iff_eq.mpr c20
  have c20b1 := bne_eq_false_iff_eq.mpr c20
  clear c20
  (first | rw [c20b0] | (simp only [i64_w, i32_w]; rw [c20b0]) | skip)
  have H' := Aside0.mk H
  clear H
  obtain ⟨⟨hcz21_0, hcz21_1, hcz21_2, hcz21_3⟩, hfz21_0, hfz21_1, hfz21_2, hfz21_3⟩ := blkC4 BK374.out
  go_wp2_with (first | ((with_reducible refine gate_callee (f := 142) rfl ?_); refine goesL_ (some 26) rfl rfl Tryz.func142 dq15 rfl #[.string a0_1] rfl dq14 ?_; (with_reducible refine (impl_isQualified.calls k a0_1 true _ A18.out).mono ?_); rintro e w22 ⟨rfl, hb⟩; refine ⟨_, rfl, ?_⟩; have n0_ := Aside0.mk (blk_below (g := gb374) (o := .cells #[.int .i64 a0_0, .string a0_1, .string a0_2, .slice A0_3 l0_3.length c0_3] 65 (0, 0)) dq68 hb); have n1_ := Aside0.mk (below_step dq67 hb); clear BK374; clear HB; have BK374 := n0_; have HB := n1_; clear n0_ n1_; (try clear hb); (try clear hb2); (try clear hk); (try clear hi); obtain ⟨⟨hcz23_0, hcz23_1, hcz23_2, hcz23_3⟩, hfz23_0, hfz23_1, hfz23_2, hfz23_3⟩ := blkC4 BK374.out))
  go_meet
  case rel => exact ⟨_, (decide ((l0_3.length : Int) > 10)), dq12, H', ⟨dq21⟩, ⟨dq68⟩, ⟨dq67⟩⟩
 clear HC15
 try clear c2
 try clear c2b0
 try clear c2b1
 try clear hcz17_0
 try clear hcz17_1
 try clear hcz17_2
 try clear hcz17_3
 try clear hfz17_0
 try clear hfz17_1
 try clear hfz17_2
 try clear hfz17_3
 obtain ⟨kq, x38_14, rfl, HA, HJ14, BK374, HB⟩ := hcut
 cases kq with
 | zero => exact absurd HA.out (by simp [impl_Item_isGood.j0])
 | succ kj14 =>
  have H := HA.out
  clear HA
  simp only [impl_Item_isGood.j0] at H
  by_cases c29 : x38_14 = true
  ·subst c29
   have H1 : (some false) = some r := by rw [if_pos rfl] at H; exact H
   clear H
   have H := H1
   clear H1
   obtain rfl := Option.some.inj H
   go_wp2
   go_ret
   exact ⟨dq11, dq67⟩
  replace c29 := Bool.eq_false_iff.mpr c29
  subst c29
  have H1 : (impl_Item_isGood.l0 kj14 l0_3 (l0_3.length : Int) 0 a0_0 a0_1 a0_2 l0_3) = some r := by rw [if_neg (show ¬ (false = true) by decide)] at H; exact H
  clear H
  have H := H1
  clear H1
  have H' := Aside0.mk H
  clear H
  obtain ⟨⟨hcz30_0, hcz30_1, hcz30_2, hcz30_3⟩, hfz30_0, hfz30_1, hfz30_2, hfz30_3⟩ := blkC4 BK374.out
  go_wp2
  go_loopg [42] kj14 (fun kq v42 w' => ∃ (x42_2 : Int), v42 = .int .i64 x42_2 ∧ Aside0 (impl_Item_isGood.l0 kq l0_3 (l0_3.length : Int) x42_2 a0_0 a0_1 a0_2 l0_3 = some r) ∧ Aside0 (kq ≤ kj14) ∧ Aside0 (w'.heap[gb374]? = some (.cells #[.int .i64 a0_0, .string a0_1, .string a0_2, (.slice A0_3 l0_3.length c0_3)] 65 (0, 0))) ∧ Aside0 (Below w.heap.size w w'))
  case atStart => exact ⟨(0), dq12, H', ⟨Nat.le_refl _⟩, ⟨dq68⟩, ⟨dq67⟩⟩
  clear H'
  try clear hcz30_0
  try clear hcz30_1
  try clear hcz30_2
  try clear hcz30_3
  try clear hfz30_0
  try clear hfz30_1
  try clear hfz30_2
  try clear hfz30_3
  obtain ⟨x42_2, rfl, HA, HK2, BK374, HB⟩ := hrel
  cases gk with
  | zero => exact absurd HA.out (by simp [impl_Item_isGood.l0])
  | succ k2 =>
   have H := HA.out
   clear HA
   simp only [impl_Item_isGood.l0] at H
   by_cases c31 : x42_2 < (l0_3.length : Int)
   rotate_left
   ·rw [if_neg c31] at H
    have c31b0 := decide_eq_false c31
    clear c31
    obtain rfl := Option.some.inj H
    go_wp2
    go_ret
    exact ⟨dq11, dq67⟩
   rw [if_pos c31] at H
   have c31b0 := decide_eq_true c31
   clear c31
   by_cases c32 : 0 ≤ x42_2
   rotate_left
   ·rw [if_neg c32] at H
    exact absurd H dq17
   rw [if_pos c32] at H
   have c32b0 := decide_eq_true c32
   clear c32
   by_cases c33 : x42_2 < (l0_3.length : Int)
   rotate_left
   ·rw [if_neg c33] at H
    exact absurd H dq17
   rw [if_pos c33] at H
   have c33b0 := decide_eq_true c33
   clear c33
   have HC34 := Aside0.mk H
   clear H
   have p377 : 0 ≤ (x42_2 : Int) := of_decide_eq_true dq13
   have q377 : x42_2 < (l0_3.length : Int) := of_decide_eq_true dq13
   obtain ⟨ad377, e377, hx377_0, hx377_1⟩ := at_T67 HR0_3.out x42_2 p377 q377
   cases e377
   replace hx377_0 := (HB.out.cell (World.block_lt_of_cell? w _ hx377_0)).trans hx377_0
   replace hx377_1 := (HB.out.cell (World.block_lt_of_cell? w _ hx377_1)).trans hx377_1
   replace p377 := eq_true p377
   replace q377 := eq_true q377
   go_upto_region 8 with (first | ((with_reducible refine gate_dst (N := 4) rfl ?_); (try (refine gate_guard (by rfl) ?_; dsimp only)); refine box_event ?hg (N := 4) ?hd (cs := #[.string (⟨#[]⟩ : ByteArray), .string (⟨#[]⟩ : ByteArray)]) (t := 67) ?hr ?_; (case hd => rfl); (case hg => rfl); (case hr => exact dq0); intro gb378 hg w35 hbox hb; have n0_ := Aside0.mk (blk_below (g := gb374) (o := .cells #[.int .i64 a0_0, .string a0_1, .string a0_2, .slice (some ad377) l0_3.length c0_3] 65 (0, 0)) dq68 hb); have n1_ := Aside0.mk (below_step dq67 hb); have n2_ := Aside0.mk (hbox); have n3_ := Aside0.mk ((dq71 : w.heap.size ≤ gb378)); have n4_ := Aside0.mk ((dq71 : w.heap.size ≤ gb378)); have n5_ := Aside0.mk ((dq70 : gb374 ≠ gb378)); have n6_ := Aside0.mk ((dq69 : gb378 ≠ gb374)); clear BK374; clear HB; have BK374 := n0_; have HB := n1_; have BK378 := n2_; have GW378 := n3_; have GE378 := n4_; have NB374_378 := n5_; have NB378_374 := n6_; clear n0_ n1_ n2_ n3_ n4_ n5_ n6_; clear hb hbox hg; have hnb36 := NB378_374.out; have hnc36 := NB374_378.out; obtain ⟨⟨hcz37_0, hcz37_1⟩, hfz37_0, hfz37_1⟩ := blkC2 BK378.out))
   (try simp only [Act.put, List.setIfInBounds_toArray, List.set_cons_zero, List.set_cons_succ])
   go_cut [56] (fun v56 wc => ∃ (kq : Nat) (x56_33 : Bool), v56 = .bool x56_33 ∧ Aside0 (impl_Item_isGood.j2 kq x42_2 l0_3 (l0_3.length : Int) x42_2 x56_33 a0_0 a0_1 a0_2 l0_3 ((rd_T67 l0_3 x42_2).f0) ((rd_T67 l0_3 x42_2).f1) = some r) ∧ Aside0 (kq ≤ k2) ∧ Aside0 (wc.heap[gb374]? = some (.cells #[.int .i64 a0_0, .string a0_1, .string a0_2, (.slice (some ad377) l0_3.length c0_3)] 65 (0, 0))) ∧ Aside0 (wc.heap[gb378]? = some (.cells #[.string ((rd_T67 l0_3 x42_2).f0), .string ((rd_T67 l0_3 x42_2).f1)] 67 (0, 0))) ∧ Aside0 (Below w.heap.size w wc))
   case first =>
    have H := HC34.out
    clear HC34
    replace H := Option.bind_eq_some_iff.mp H
    obtain ⟨t379, A380, H⟩ := H
    replace H : (if t379 = true then ((impl_isPlain.f k2 ((rd_T67 l0_3 x42_2).f1)).bind fun t380 => (impl_Item_isGood.j2 k2 x42_2 l0_3 (l0_3.length : Int) x42_2 (!t380) a0_0 a0_1 a0_2 l0_3 ((rd_T67 l0_3 x42_2).f0) ((rd_T67 l0_3 x42_2).f1))) else (impl_Item_isGood.j2 k2 x42_2 l0_3 (l0_3.length : Int) x42_2 true a0_0 a0_1 a0_2 l0_3 ((rd_T67 l0_3 x42_2).f0) ((rd_T67 l0_3 x42_2).f1))) = some r := H
    have A38 := Aside0.mk A380
    clear A380
    by_cases c39 : t379 = true
    rotate_left
    ·replace c39 := Bool.eq_false_iff.mpr c39
     subst c39
     have H1 : (impl_Item_isGood.j2 k2 x42_2 l0_3 (l0_3.length : Int) x42_2 true a0_0 a0_1 a0_2 l0_3 ((rd_T67 l0_3 x42_2).f0) ((rd_T67 l0_3 x42_2).f1)) = some r := by rw [if_neg (show ¬ (false = true) by decide)] at H; exact H
     clear H
     have H := H1
     clear H1
     have H' := Aside0.mk H
     clear H
     have hnb46 := NB378_374.out
     have hnc46 := NB374_378.out
     obtain ⟨⟨hcz47_0, hcz47_1⟩, hfz47_0, hfz47_1⟩ := blkC2 BK378.out
     go_wp2_with (first | ((with_reducible refine gate_callee (f := 142) rfl ?_); refine goesL_ (some 49) rfl rfl Tryz.func142 dq15 rfl #[.string ((rd_T67 l0_3 x42_2).f0)] rfl dq14 ?_; (with_reducible refine (impl_isQualified.calls k2 ((rd_T67 l0_3 x42_2).f0) false _ A38.out).mono ?_); rintro e w48 ⟨rfl, hb⟩; refine ⟨_, rfl, ?_⟩; have n0_ := Aside0.mk (blk_below (g := gb374) (o := .cells #[.int .i64 a0_0, .string a0_1, .string a0_2, .slice (some ad377) l0_3.length c0_3] 65 (0, 0)) dq75 hb); have n1_ := Aside0.mk (blk_below (g := gb378) (o := .cells #[.string ((rd_T67 l0_3 x42_2).f0), .string ((rd_T67 l0_3 x42_2).f1)] 67 (0, 0)) dq74 hb); have n2_ := Aside0.mk (below_step dq72 hb); clear BK374; clear BK378; clear HB; have BK374 := n0_; have BK378 := n1_; have HB := n2_; clear n0_ n1_ n2_; (try clear hb); (try clear hb2); (try clear hk); (try clear hi)))
     go_meet
     case rel => exact ⟨_, (true), dq12, H', ⟨by have := HJ14.out; have := HK2.out; first | omega | exact Nat.le_refl _⟩, ⟨dq68⟩, ⟨dq73⟩, ⟨dq72⟩⟩
    subst c39
    have H1 : ((impl_isPlain.f k2 ((rd_T67 l0_3 x42_2).f1)).bind fun t380 => (impl_Item_isGood.j2 k2 x42_2 l0_3 (l0_3.length : Int) x42_2 (!t380) a0_0 a0_1 a0_2 l0_3 ((rd_T67 l0_3 x42_2).f0) ((rd_T67 l0_3 x42_2).f1))) = some r := by rw [if_pos rfl] at H; exact H
    clear H
    have H := H1
    clear H1
    replace H := Option.bind_eq_some_iff.mp H
    obtain ⟨t380, A400, H⟩ := H
    replace H : (impl_Item_isGood.j2 k2 x42_2 l0_3 (l0_3.length : Int) x42_2 (!t380) a0_0 a0_1 a0_2 l0_3 ((rd_T67 l0_3 x42_2).f0) ((rd_T67 l0_3 x42_2).f1)) = some r := H
    have A40 := Aside0.mk A400
    clear A400
    have H' := Aside0.mk H
    clear H
    have hnb41 := NB378_374.out
    have hnc41 := NB374_378.out
    obtain ⟨⟨hcz42_0, hcz42_1⟩, hfz42_0, hfz42_1⟩ := blkC2 BK378.out
    go_wp2_with (first | ((with_reducible refine gate_callee (f := 142) rfl ?_); refine goesL_ (some 49) rfl rfl Tryz.func142 dq15 rfl #[.string ((rd_T67 l0_3 x42_2).f0)] rfl dq14 ?_; (with_reducible refine (impl_isQualified.calls k2 ((rd_T67 l0_3 x42_2).f0) true _ A38.out).mono ?_); rintro e w43 ⟨rfl, hb⟩; refine ⟨_, rfl, ?_⟩; have n0_ := Aside0.mk (blk_below (g := gb374) (o := .cells #[.int .i64 a0_0, .string a0_1, .string a0_2, .slice (some ad377) l0_3.length c0_3] 65 (0, 0)) dq75 hb); have n1_ := Aside0.mk (blk_below (g := gb378) (o := .cells #[.string ((rd_T67 l0_3 x42_2).f0), .string ((rd_T67 l0_3 x42_2).f1)] 67 (0, 0)) dq74 hb); have n2_ := Aside0.mk (below_step dq72 hb); clear BK374; clear BK378; clear HB; have BK374 := n0_; have BK378 := n1_; have HB := n2_; clear n0_ n1_ n2_; (try clear hb); (try clear hb2); (try clear hk); (try clear hi); obtain ⟨⟨hcz44_0, hcz44_1⟩, hfz44_0, hfz44_1⟩ := blkC2 BK378.out) | (go_at_call 141; (with_reducible refine (impl_isPlain.calls k2 ((rd_T67 l0_3 x42_2).f1) t380 _ ?side1 A40.out).mono ?_); (case side1 => exact Gl_below HT.out dq72); rintro e w45 ⟨rfl, hb⟩; have n0_ := Aside0.mk (blk_below (g := gb374) (o := .cells #[.int .i64 a0_0, .string a0_1, .string a0_2, .slice (some ad377) l0_3.length c0_3] 65 (0, 0)) dq68 hb); have n1_ := Aside0.mk (blk_below (g := gb378) (o := .cells #[.string ((rd_T67 l0_3 x42_2).f0), .string ((rd_T67 l0_3 x42_2).f1)] 67 (0, 0)) dq73 hb); have n2_ := Aside0.mk (below_step dq72 hb); clear BK374; clear BK378; clear HB; have BK374 := n0_; have BK378 := n1_; have HB := n2_; clear n0_ n1_ n2_; (try clear hb); (try clear hb2); (try clear hk); (try clear hi)))
    go_meet
    case rel => exact ⟨_, (!t380), dq12, H', ⟨by have := HJ14.out; have := HK2.out; first | omega | exact Nat.le_refl _⟩, ⟨dq68⟩, ⟨dq73⟩, ⟨dq72⟩⟩
   clear HC34
   try clear c31b0
   try clear c32b0
   try clear c33b0
   try clear hcz37_0
   try clear hcz37_1
   try clear hfz37_0
   try clear hfz37_1
   try clear hx377_0
   try clear hx377_1
   try clear p377
   try clear q377
   obtain ⟨kq, x56_33, rfl, HA, HJ33, BK374, BK378, HB⟩ := hcut
   cases kq with
   | zero => exact absurd HA.out (by simp [impl_Item_isGood.j2])
   | succ kj33 =>
    have H := HA.out
    clear HA
    simp only [impl_Item_isGood.j2] at H
    by_cases c49 : x56_33 = true
    ·subst c49
     have H1 : (some false) = some r := by rw [if_pos rfl] at H; exact H
     clear H
     have H := H1
     clear H1
     obtain rfl := Option.some.inj H
     go_wp2
     go_ret
     exact ⟨dq11, dq72⟩
    replace c49 := Bool.eq_false_iff.mpr c49
    subst c49
    have H1 : (if 0 ≤ x42_2 then (if x42_2 ≤ (l0_3.length : Int) then ((some (l0_3.take (x42_2 : Int).toNat : List (S67))).bind fun y381 => (impl_Item_isGood.l1 kj33 l0_3 (l0_3.length : Int) x42_2 y381 (y381.length : Int) 0 a0_0 a0_1 a0_2 l0_3 ((rd_T67 l0_3 x42_2).f0) ((rd_T67 l0_3 x42_2).f1))) else (none)) else (none)) = some r := by rw [if_neg (show ¬ (false = true) by decide)] at H; exact H
    clear H
    have H := H1
    clear H1
    by_cases c50 : 0 ≤ x42_2
    rotate_left
    ·rw [if_neg c50] at H
     exact absurd H dq17
    rw [if_pos c50] at H
    have c50b0 := eq_true c50
    have c50b1 := decide_eq_true c50
    clear c50
    by_cases c51 : x42_2 ≤ (l0_3.length : Int)
    rotate_left
    ·rw [if_neg c51] at H
     exact absurd H dq17
    rw [if_pos c51] at H
    have c51b0 := eq_true c51
    have c51b1 := decide_eq_true c51
    clear c51
    obtain ⟨y381, hy381⟩ : ∃ y_ : List (S67), y_ = (l0_3.take (x42_2 : Int).toNat) := ⟨_, rfl⟩
    replace H : (impl_Item_isGood.l1 kj33 l0_3 (l0_3.length : Int) x42_2 y381 (y381.length : Int) 0 a0_0 a0_1 a0_2 l0_3 ((rd_T67 l0_3 x42_2).f0) ((rd_T67 l0_3 x42_2).f1)) = some r := by first | (rw [hy381]; with_reducible exact H) | (have H2_ := (Option.bind_some _ _).symm.trans H; rw [hy381]; with_reducible exact H2_) | (have H2_ := (Option.bind_some _ _).symm.trans H; with_reducible exact H2_) | with_reducible exact H | (rw [hy381]; exact H) | exact H
    have Ny381 := Aside0.mk hy381
    clear hy381
    have H' := Aside0.mk H
    clear H
    have hnb52 := NB374_378.out
    have hnc52 := NB378_374.out
    obtain ⟨⟨hcz53_0, hcz53_1, hcz53_2, hcz53_3⟩, hfz53_0, hfz53_1, hfz53_2, hfz53_3⟩ := blkC4 BK374.out
    have q54 : (x42_2 : Int) ≤ ((l0_3.length : Int) : Int) := of_decide_eq_true dq13
    obtain ⟨i054, hi054, _, hsz54, _⟩ := info_parts info67
    have hroom54 : l0_3.length ≤ c0_3 := HC0_3.out
    have hC54 : Kd.C k67 _ (some ad377) l0_3.length l0_3 := HR0_3.out
    have hcut54 := cut_to (P := Tryz.prog) 63 67 .i64 Tryz.underlying63 hi054 (some ad377) l0_3.length c0_3 x42_2 (of_decide_eq_true dq13) q54 hroom54
    have hr54 := Kd.C_take (m := (x42_2 : Int).toNat) hC54 dq20
    have hy54 : y381.length = (x42_2 : Int).toNat := (by rw [Ny381.out, List.length_take]; omega)
    rw [← Ny381.out] at hr54
    rw [← hy54] at hcut54
    have HR384 := Aside0.mk hr54
    have HC384 := Aside0.mk (show y381.length ≤ c0_3 from by omega)
    clear hr54 hC54 hroom54 hi054 hsz54
    have KY54 := Aside0.mk hy54
    clear hy54
    replace q54 := eq_true q54
    go_wp2
    go_loopg [62] kj33 (fun kq v62 w' => ∃ (x62_4 : Int), v62 = .int .i64 x62_4 ∧ Aside0 (impl_Item_isGood.l1 kq l0_3 (l0_3.length : Int) x42_2 y381 (y381.length : Int) x62_4 a0_0 a0_1 a0_2 l0_3 ((rd_T67 l0_3 x42_2).f0) ((rd_T67 l0_3 x42_2).f1) = some r) ∧ Aside0 (kq ≤ kj33) ∧ Aside0 (w'.heap[gb374]? = some (.cells #[.int .i64 a0_0, .string a0_1, .string a0_2, (.slice (some ad377) l0_3.length c0_3)] 65 (0, 0))) ∧ Aside0 (w'.heap[gb378]? = some (.cells #[.string ((rd_T67 l0_3 x42_2).f0), .string ((rd_T67 l0_3 x42_2).f1)] 67 (0, 0))) ∧ Aside0 (Below w.heap.size w w'))
    case atStart => exact ⟨(0), dq12, H', ⟨Nat.le_refl _⟩, ⟨dq68⟩, ⟨dq73⟩, ⟨dq72⟩⟩
    clear H'
    try clear c50b0
    try clear c50b1
    try clear c51b0
    try clear c51b1
    try clear q54
    try clear hcz53_0
    try clear hcz53_1
    try clear hcz53_2
    try clear hcz53_3
    try clear hfz53_0
    try clear hfz53_1
    try clear hfz53_2
    try clear hfz53_3
    obtain ⟨x62_4, rfl, HA, HK4, BK374, BK378, HB⟩ := hrel
    cases gk with
    | zero => exact absurd HA.out (by simp [impl_Item_isGood.l1])
    | succ k4 =>
     have H := HA.out
     clear HA
     simp only [impl_Item_isGood.l1] at H
     by_cases c55 : x62_4 < (y381.length : Int)
     rotate_left
     ·rw [if_neg c55] at H
      have c55b0 := decide_eq_false c55
      clear c55
      have H' := Aside0.mk H
      clear H
      go_wp2
      go_roundg k4
      case measure => have := HJ14.out; have := HK2.out; have := HJ33.out; have := HK4.out; omega
      case rel => exact ⟨(wrap64 (x42_2 + 1)), dq12, H', ⟨by have := HJ14.out; have := HK2.out; have := HJ33.out; have := HK4.out; omega⟩, ⟨dq68⟩, ⟨dq72⟩⟩
     rw [if_pos c55] at H
     have c55b0 := decide_eq_true c55
     clear c55
     by_cases c56 : 0 ≤ x62_4
     rotate_left
     ·rw [if_neg c56] at H
      exact absurd H dq17
     rw [if_pos c56] at H
     have c56b0 := decide_eq_true c56
     clear c56
     by_cases c57 : x62_4 < (y381.length : Int)
     rotate_left
     ·rw [if_neg c57] at H
      exact absurd H dq17
     rw [if_pos c57] at H
     have c57b0 := decide_eq_true c57
     clear c57
     by_cases c58 : ((rd_T67 l0_3 x42_2).f0).toList = ((rd_T67 y381 x62_4).f0).toList
     ·rw [if_pos c58] at H
      have c58b0 := beq_iff_eq.mpr c58
      have c58b1 := bne_eq_false_iff_eq.mpr c58
      clear c58
      obtain rfl := Option.some.inj H
      have p385 : 0 ≤ (x62_4 : Int) := of_decide_eq_true dq13
      have q385 : x62_4 < (y381.length : Int) := of_decide_eq_true dq13
      obtain ⟨ad385, e385, hx385_0, hx385_1⟩ := at_T67 HR384.out x62_4 p385 q385
      obtain rfl : ad377 = ad385 := (by injection e385)
      replace hx385_0 := (HB.out.cell (World.block_lt_of_cell? w _ hx385_0)).trans hx385_0
      replace hx385_1 := (HB.out.cell (World.block_lt_of_cell? w _ hx385_1)).trans hx385_1
      replace p385 := eq_true p385
      replace q385 := eq_true q385
      go_wp2_with (first | ((with_reducible refine gate_dst (N := 6) rfl ?_); (try (refine gate_guard (by rfl) ?_; dsimp only)); refine box_event ?hg (N := 6) ?hd (cs := #[.string (⟨#[]⟩ : ByteArray), .string (⟨#[]⟩ : ByteArray)]) (t := 67) ?hr ?_; (case hd => rfl); (case hg => rfl); (case hr => exact dq0); intro gb386 hg w59 hbox hb; have n0_ := Aside0.mk (blk_below (g := gb374) (o := .cells #[.int .i64 a0_0, .string a0_1, .string a0_2, .slice (some ad377) l0_3.length c0_3] 65 (0, 0)) dq68 hb); have n1_ := Aside0.mk (blk_below (g := gb378) (o := .cells #[.string ((rd_T67 l0_3 x42_2).f0), .string ((rd_T67 l0_3 x42_2).f1)] 67 (0, 0)) dq73 hb); have n2_ := Aside0.mk (below_step dq72 hb); have n3_ := Aside0.mk (hbox); have n4_ := Aside0.mk ((dq78 : w.heap.size ≤ gb386)); have n5_ := Aside0.mk ((dq78 : w.heap.size ≤ gb386)); have n6_ := Aside0.mk ((dq70 : gb374 ≠ gb386)); have n7_ := Aside0.mk ((dq69 : gb386 ≠ gb374)); have n8_ := Aside0.mk ((dq77 : gb378 ≠ gb386)); have n9_ := Aside0.mk ((dq76 : gb386 ≠ gb378)); clear BK374; clear BK378; clear HB; have BK374 := n0_; have BK378 := n1_; have HB := n2_; have BK386 := n3_; have GW386 := n4_; have GE386 := n5_; have NB374_386 := n6_; have NB386_374 := n7_; have NB378_386 := n8_; have NB386_378 := n9_; clear n0_ n1_ n2_ n3_ n4_ n5_ n6_ n7_ n8_ n9_; clear hb hbox hg; have hnb60 := NB386_374.out; have hnc60 := NB374_386.out; have hnb61 := NB386_378.out; have hnc61 := NB378_386.out; obtain ⟨⟨hcz62_0, hcz62_1⟩, hfz62_0, hfz62_1⟩ := blkC2 BK386.out; have hnb63 := NB378_374.out; have hnc63 := NB374_378.out; obtain ⟨⟨hcz64_0, hcz64_1⟩, hfz64_0, hfz64_1⟩ := blkC2 BK378.out))
      go_ret
      exact ⟨dq11, dq79⟩
     rw [if_neg c58] at H
     have c58b0 := beq_eq_false_iff_ne.mpr c58
     have c58b1 := bne_iff_ne.mpr c58
     have H' := Aside0.mk H
     clear H
     have p385 : 0 ≤ (x62_4 : Int) := of_decide_eq_true dq13
     have q385 : x62_4 < (y381.length : Int) := of_decide_eq_true dq13
     obtain ⟨ad385, e385, hx385_0, hx385_1⟩ := at_T67 HR384.out x62_4 p385 q385
     obtain rfl : ad377 = ad385 := (by injection e385)
     replace hx385_0 := (HB.out.cell (World.block_lt_of_cell? w _ hx385_0)).trans hx385_0
     replace hx385_1 := (HB.out.cell (World.block_lt_of_cell? w _ hx385_1)).trans hx385_1
     replace p385 := eq_true p385
     replace q385 := eq_true q385
     go_wp2_with (first | ((with_reducible refine gate_dst (N := 6) rfl ?_); (try (refine gate_guard (by rfl) ?_; dsimp only)); refine box_event ?hg (N := 6) ?hd (cs := #[.string (⟨#[]⟩ : ByteArray), .string (⟨#[]⟩ : ByteArray)]) (t := 67) ?hr ?_; (case hd => rfl); (case hg => rfl); (case hr => exact dq0); intro gb386 hg w65 hbox hb; have n0_ := Aside0.mk (blk_below (g := gb374) (o := .cells #[.int .i64 a0_0, .string a0_1, .string a0_2, .slice (some ad377) l0_3.length c0_3] 65 (0, 0)) dq68 hb); have n1_ := Aside0.mk (blk_below (g := gb378) (o := .cells #[.string ((rd_T67 l0_3 x42_2).f0), .string ((rd_T67 l0_3 x42_2).f1)] 67 (0, 0)) dq73 hb); have n2_ := Aside0.mk (below_step dq72 hb); have n3_ := Aside0.mk (hbox); have n4_ := Aside0.mk ((dq78 : w.heap.size ≤ gb386)); have n5_ := Aside0.mk ((dq78 : w.heap.size ≤ gb386)); have n6_ := Aside0.mk ((dq70 : gb374 ≠ gb386)); have n7_ := Aside0.mk ((dq69 : gb386 ≠ gb374)); have n8_ := Aside0.mk ((dq77 : gb378 ≠ gb386)); have n9_ := Aside0.mk ((dq76 : gb386 ≠ gb378)); clear BK374; clear BK378; clear HB; have BK374 := n0_; have BK378 := n1_; have HB := n2_; have BK386 := n3_; have GW386 := n4_; have GE386 := n5_; have NB374_386 := n6_; have NB386_374 := n7_; have NB378_386 := n8_; have NB386_378 := n9_; clear n0_ n1_ n2_ n3_ n4_ n5_ n6_ n7_ n8_ n9_; clear hb hbox hg; have hnb66 := NB386_374.out; have hnc66 := NB374_386.out; have hnb67 := NB386_378.out; have hnc67 := NB378_386.out; obtain ⟨⟨hcz68_0, hcz68_1⟩, hfz68_0, hfz68_1⟩ := blkC2 BK386.out; have hnb69 := NB378_374.out; have hnc69 := NB374_378.out; obtain ⟨⟨hcz70_0, hcz70_1⟩, hfz70_0, hfz70_1⟩ := blkC2 BK378.out))
     go_roundg k4
     case measure => have := HJ14.out; have := HK2.out; have := HJ33.out; have := HK4.out; omega
     case rel => exact ⟨(wrap64 (x62_4 + 1)), dq12, H', ⟨by have := HJ14.out; have := HK2.out; have := HJ33.out; have := HK4.out; omega⟩, ⟨by refine blk_up ?_; refine blk_far ?_ NB374_386.out _; refine blk_up ?_; refine blk_far ?_ NB374_386.out _; refine blk_up ?_; exact BK374.out⟩, ⟨by refine blk_up ?_; refine blk_far ?_ NB378_386.out _; refine blk_up ?_; refine blk_far ?_ NB378_386.out _; refine blk_up ?_; exact BK378.out⟩, ⟨dq79⟩⟩

/-! ### impl_Item_bytes: function 105 -/
def impl_Item_bytes.l0 : Nat → Int → List (S67) → Int → Int → Option (Int)
 | 0, _, _, _, _ => none
 | k + 1, x3, x14, x15, x16 => if x16 < x15 then (if 0 ≤ x16 then (if x16 < (x14.length : Int) then (impl_Item_bytes.l0 k (wrap64 (x3 + (wrap64 ((((rd_T67 x14 x16).f0).size : Int) + (((rd_T67 x14 x16).f1).size : Int))))) x14 x15 (wrap64 (x16 + 1))) else (none)) else (none)) else (some x3)
def impl_Item_bytes.f (k : Nat) (a0_0 : Int) (a0_1 : ByteArray) (a0_2 : ByteArray) (l0_3 : List (S67)) : Option (Int) := impl_Item_bytes.l0 k (wrap64 ((a0_1.size : Int) + (a0_2.size : Int))) l0_3 (l0_3.length : Int) 0
set_option maxHeartbeats 8000000 in
set_option maxRecDepth 100000 in
theorem impl_Item_bytes.calls (k : Nat) (a0_0 : Int) (a0_1 : ByteArray) (a0_2 : ByteArray) (A0_3 : Option Addr) (c0_3 : Nat) (l0_3 : List (S67)) (r : Int) (w : World) (hr0_3 : Kd.C k67 w A0_3 l0_3.length l0_3) (hc0_3 : l0_3.length ≤ c0_3) (h : impl_Item_bytes.f k a0_0 a0_1 a0_2 l0_3 = some r) :
  Calls Tryz.prog 105 #[.agg #[.int .i64 a0_0, .string a0_1, .string a0_2, .slice A0_3 l0_3.length c0_3]] w fun e w' => e = .returned (.int .i64 r) ∧ Below w.heap.size w w' := by
 have hu65 := Tryz.underlying65
 have hu67 := Tryz.underlying67
 have HR0_3 := Aside0.mk hr0_3
 have HC0_3 := Aside0.mk hc0_3
 clear hr0_3 hc0_3
 have HB := Aside0.mk (Below.refl w.heap.size w)
 have H : (impl_Item_bytes.l0 k (wrap64 ((a0_1.size : Int) + (a0_2.size : Int))) l0_3 (l0_3.length : Int) 0) = some r := h
 clear h
 have H' := Aside0.mk H
 clear H
 go_enter Tryz.func105, Tryz.ntmps105
 go_wp2_with (first | ((with_reducible refine gate_dst (N := 1) rfl ?_); refine box_event ?hg (N := 1) ?hd (cs := #[.int .i64 a0_0, .string a0_1, .string a0_2, .slice A0_3 l0_3.length c0_3]) (t := 65) ?hr ?_; (case hd => rfl); (case hg => rfl); (case hr => exact dq0); intro gb387 hg w2 hbox hb; have n0_ := Aside0.mk (below_step dq9 hb); have n1_ := Aside0.mk (hbox); have n2_ := Aside0.mk ((dq8 : w.heap.size ≤ gb387)); have n3_ := Aside0.mk ((dq8 : w.heap.size ≤ gb387)); clear HB; have HB := n0_; have BK387 := n1_; have GW387 := n2_; have GE387 := n3_; clear n0_ n1_ n2_ n3_; clear hb hbox hg; obtain ⟨⟨hcz3_0, hcz3_1, hcz3_2, hcz3_3⟩, hfz3_0, hfz3_1, hfz3_2, hfz3_3⟩ := blkC4 BK387.out))
 go_loopg [3, 16] k (fun kq v3 v16 w' => ∃ (x3_1 : Int) (x16_1 : Int), v3 = .int .i64 x3_1 ∧ v16 = .int .i64 x16_1 ∧ Aside0 (impl_Item_bytes.l0 kq x3_1 l0_3 (l0_3.length : Int) x16_1 = some r) ∧ Aside0 (kq ≤ k) ∧ Aside0 (w'.heap[gb387]? = some (.cells #[.int .i64 a0_0, .string a0_1, .string a0_2, (.slice A0_3 l0_3.length c0_3)] 65 (0, 0))) ∧ Aside0 (Below w.heap.size w w'))
 case atStart => exact ⟨(wrap64 ((a0_1.size : Int) + (a0_2.size : Int))), (0), dq12, dq12, H', ⟨Nat.le_refl _⟩, ⟨by refine blk_up ?_; exact BK387.out⟩, ⟨dq80⟩⟩
 clear H'
 try clear c1
 try clear p2
 try clear hcz3_0
 try clear hcz3_1
 try clear hcz3_2
 try clear hcz3_3
 try clear hfz3_0
 try clear hfz3_1
 try clear hfz3_2
 try clear hfz3_3
 obtain ⟨x3_1, x16_1, rfl, rfl, HA, HK1, BK387, HB⟩ := hrel
 cases gk with
 | zero => exact absurd HA.out (by simp [impl_Item_bytes.l0])
 | succ k1 =>
  have H := HA.out
  clear HA
  simp only [impl_Item_bytes.l0] at H
  by_cases c4 : x16_1 < (l0_3.length : Int)
  rotate_left
  ·rw [if_neg c4] at H
   have c4b0 := decide_eq_false c4
   clear c4
   obtain rfl := Option.some.inj H
   go_wp2
   go_ret
   exact ⟨dq11, dq80⟩
  rw [if_pos c4] at H
  have c4b0 := decide_eq_true c4
  clear c4
  by_cases c5 : 0 ≤ x16_1
  rotate_left
  ·rw [if_neg c5] at H
   exact absurd H dq17
  rw [if_pos c5] at H
  have c5b0 := decide_eq_true c5
  clear c5
  by_cases c6 : x16_1 < (l0_3.length : Int)
  rotate_left
  ·rw [if_neg c6] at H
   exact absurd H dq17
  rw [if_pos c6] at H
  have c6b0 := decide_eq_true c6
  clear c6
  have H' := Aside0.mk H
  clear H
  have p388 : 0 ≤ (x16_1 : Int) := of_decide_eq_true dq13
  have q388 : x16_1 < (l0_3.length : Int) := of_decide_eq_true dq13
  obtain ⟨ad388, e388, hx388_0, hx388_1⟩ := at_T67 HR0_3.out x16_1 p388 q388
  cases e388
  replace hx388_0 := (HB.out.cell (World.block_lt_of_cell? w _ hx388_0)).trans hx388_0
  replace hx388_1 := (HB.out.cell (World.block_lt_of_cell? w _ hx388_1)).trans hx388_1
  replace p388 := eq_true p388
  replace q388 := eq_true q388
  go_wp2_with (first | ((with_reducible refine gate_dst (N := 5) rfl ?_); refine box_event ?hg (N := 5) ?hd (cs := #[.string (⟨#[]⟩ : ByteArray), .string (⟨#[]⟩ : ByteArray)]) (t := 67) ?hr ?_; (case hd => rfl); (case hg => rfl); (case hr => exact dq0); intro gb389 hg w7 hbox hb; have n0_ := Aside0.mk (blk_below (g := gb387) (o := .cells #[.int .i64 a0_0, .string a0_1, .string a0_2, .slice (some ad388) l0_3.length c0_3] 65 (0, 0)) (by refine blk_up ?_; exact BK387.out) hb); have n1_ := Aside0.mk (below_step dq80 hb); have n2_ := Aside0.mk (hbox); have n3_ := Aside0.mk ((dq81 : w.heap.size ≤ gb389)); have n4_ := Aside0.mk ((dq81 : w.heap.size ≤ gb389)); have n5_ := Aside0.mk ((by rw [hg]; exact Nat.ne_of_lt (blk_lt (g := gb387) (o := .cells #[.int .i64 a0_0, .string a0_1, .string a0_2, .slice (some ad388) l0_3.length c0_3] 65 (0, 0)) (by refine blk_up ?_; exact BK387.out)) : gb387 ≠ gb389)); have n6_ := Aside0.mk ((by rw [hg]; exact Nat.ne_of_gt (blk_lt (g := gb387) (o := .cells #[.int .i64 a0_0, .string a0_1, .string a0_2, .slice (some ad388) l0_3.length c0_3] 65 (0, 0)) (by refine blk_up ?_; exact BK387.out)) : gb389 ≠ gb387)); clear BK387; clear HB; have BK387 := n0_; have HB := n1_; have BK389 := n2_; have GW389 := n3_; have GE389 := n4_; have NB387_389 := n5_; have NB389_387 := n6_; clear n0_ n1_ n2_ n3_ n4_ n5_ n6_; clear hb hbox hg; have hnb8 := NB389_387.out; have hnc8 := NB387_389.out; obtain ⟨⟨hcz9_0, hcz9_1⟩, hfz9_0, hfz9_1⟩ := blkC2 BK389.out))
  go_roundg k1
  case measure => have := HK1.out; omega
  case rel => exact ⟨(wrap64 (x3_1 + (wrap64 ((((rd_T67 l0_3 x16_1).f0).size : Int) + (((rd_T67 l0_3 x16_1).f1).size : Int))))), (wrap64 (x16_1 + 1)), dq12, dq12, H', ⟨dq16⟩, ⟨by refine blk_up ?_; refine blk_far ?_ NB387_389.out _; refine blk_up ?_; refine blk_far ?_ NB387_389.out _; refine blk_up ?_; exact BK387.out⟩, ⟨by repeat (first | (with_reducible first | exact HB.out | apply below_alloc | apply pw_below_drewN | apply below_drew1 | refine below_set ?_ GE387.out | refine below_set ?_ GE389.out) | exact HB.out)⟩⟩

/-! ### impl_DocOk: function 65 -/
mutual
def impl_DocOk.j0 : Nat → List (S65) → Bool → Option (Bool)
 | 0, _, _ => none
 | k + 1, x0, x24 => if x24 = true then (some false) else (impl_DocOk.l0 k x0 0 (([] : List Int)) x0 (x0.length : Int) 0)
def impl_DocOk.l0 : Nat → List (S65) → Int → List Int → List (S65) → Int → Int → Option (Bool)
 | 0, _, _, _, _, _, _ => none
 | k + 1, x0, x3, x4, x26, x27, x28 => if x28 < x27 then (if 0 ≤ x28 then (if x28 < (x26.length : Int) then ((impl_Item_isGood.f k ((rd_T65 x26 x28).f0) ((rd_T65 x26 x28).f1) ((rd_T65 x26 x28).f2) ((rd_T65 x26 x28).f3)).bind fun t398 => (if t398 = true then ((impl_Item_bytes.f k ((rd_T65 x26 x28).f0) ((rd_T65 x26 x28).f1) ((rd_T65 x26 x28).f2) ((rd_T65 x26 x28).f3)).bind fun t399 => (impl_DocOk.l1 k x0 (wrap64 (x3 + t399)) x4 x28 x26 x27 x28 ((rd_T65 x26 x28).f0) ((rd_T65 x26 x28).f1) ((rd_T65 x26 x28).f2) ((rd_T65 x26 x28).f3))) else (some false))) else (none)) else (none)) else (some (decide (x3 ≤ 2500)))
def impl_DocOk.j3 : Nat → List (S65) → Int → List Int → Int → List (S65) → Int → Int → Int → ByteArray → ByteArray → List (S67) → Option (Bool)
 | 0, _, _, _, _, _, _, _, _, _, _, _ => none
 | k + 1, x0, x3, x4, x5, x26, x27, x28, x398000, x398001, x398002, x398003 => if x5 > 0 then (if (x4.length : Int) = 0 then (impl_DocOk.j4 k x0 x3 x4 x5 x26 x27 x28 true x398000 x398001 x398002 x398003) else (impl_DocOk.j4 k x0 x3 x4 x5 x26 x27 x28 (decide ((x4.length : Int) ≥ 20)) x398000 x398001 x398002 x398003)) else (impl_DocOk.j4 k x0 x3 x4 x5 x26 x27 x28 (decide ((x4.length : Int) ≥ 20)) x398000 x398001 x398002 x398003)
def impl_DocOk.j4 : Nat → List (S65) → Int → List Int → Int → List (S65) → Int → Int → Bool → Int → ByteArray → ByteArray → List (S67) → Option (Bool)
 | 0, _, _, _, _, _, _, _, _, _, _, _, _ => none
 | k + 1, x0, x3, x4, x5, x26, x27, x28, x70, x398000, x398001, x398002, x398003 => if x70 = true then (some false) else (if x398001.toList = ([] : List UInt8) then (if x5 > 0 then (if 0 ≤ (wrap64 (x5 - 1)) then (if (wrap64 (x5 - 1)) < (x0.length : Int) then (if ((rd_T65 x0 (wrap64 (x5 - 1))).f1).toList = ([] : List UInt8) then (if ((rd_T65 x0 (wrap64 (x5 - 1))).f0) = x398000 then (some false) else (impl_DocOk.l0 k x0 x3 x4 x26 x27 (wrap64 (x28 + 1)))) else (impl_DocOk.l0 k x0 x3 x4 x26 x27 (wrap64 (x28 + 1)))) else (none)) else (none)) else (impl_DocOk.l0 k x0 x3 x4 x26 x27 (wrap64 (x28 + 1)))) else (if x4.length < 17592186044416 then (impl_DocOk.l0 k x0 x3 (x4 ++ [x5]) x26 x27 (wrap64 (x28 + 1))) else (none)))
def impl_DocOk.l1 : Nat → List (S65) → Int → List Int → Int → List (S65) → Int → Int → Int → ByteArray → ByteArray → List (S67) → Option (Bool)
 | 0, _, _, _, _, _, _, _, _, _, _, _ => none
 | k + 1, x0, x3, x4, x5, x26, x27, x28, x398000, x398001, x398002, x398003 => if (x4.length : Int) > 0 then (if 0 ≤ (wrap64 ((x4.length : Int) - 1)) then (if (wrap64 ((x4.length : Int) - 1)) < (x4.length : Int) then (if (rd x4 (wrap64 ((x4.length : Int) - 1))) = x398000 then (impl_DocOk.j3 k x0 x3 x4 x5 x26 x27 x28 x398000 x398001 x398002 x398003) else (if (wrap64 ((x4.length : Int) - 1)) ≤ (x4.length : Int) then (impl_DocOk.l1 k x0 x3 (x4.take ((wrap64 ((x4.length : Int) - 1)) : Int).toNat) x5 x26 x27 x28 x398000 x398001 x398002 x398003) else (none))) else (none)) else (none)) else (impl_DocOk.j3 k x0 x3 x4 x5 x26 x27 x28 x398000 x398001 x398002 x398003)
end
def impl_DocOk.f (k : Nat) (l0 : List (S65)) : Option (Bool) := (impl_in.f (l0.length : Int) 1 200).bind fun t390 => (if t390 = true then (if 0 < (l0.length : Int) then (if ((rd_T65 l0 0).f0) = (-1) then (impl_DocOk.j0 k l0 (((rd_T65 l0 0).f1).toList == ([] : List UInt8))) else (impl_DocOk.j0 k l0 true)) else (none)) else (impl_DocOk.j0 k l0 true))
set_option maxHeartbeats 8000000 in
set_option maxRecDepth 100000 in
theorem impl_DocOk.calls (k : Nat) (A0 : Option Addr) (c0 : Nat) (l0 : List (S65)) (r : Bool) (w : World) (hT : Gl w) (hr0 : Kd.C k65 w A0 l0.length l0) (hc0 : l0.length ≤ c0) (h : impl_DocOk.f k l0 = some r) :
  Calls Tryz.prog 65 #[.slice A0 l0.length c0] w fun e w' => e = .returned (.bool r) ∧ Below w.heap.size w w' := by
 have hu65 := Tryz.underlying65
 have HR0 := Aside0.mk hr0
 have HC0 := Aside0.mk hc0
 clear hr0 hc0
 have HT := Aside0.mk hT
 clear hT
 have HB := Aside0.mk (Below.refl w.heap.size w)
 have H : ((impl_in.f (l0.length : Int) 1 200).bind fun t390 => (if t390 = true then (if 0 < (l0.length : Int) then (if ((rd_T65 l0 0).f0) = (-1) then (impl_DocOk.j0 k l0 (((rd_T65 l0 0).f1).toList == ([] : List UInt8))) else (impl_DocOk.j0 k l0 true)) else (none)) else (impl_DocOk.j0 k l0 true))) = some r := h
 clear h
 have HC2 := Aside0.mk H
 clear H
 go_enter Tryz.func65, Tryz.ntmps65
 go_upto_region 1 with (fail)
 go_cut [24] (fun v24 wc => ∃ (kq : Nat) (x24_1 : Bool), v24 = .bool x24_1 ∧ Aside0 (impl_DocOk.j0 kq l0 x24_1 = some r) ∧ Aside0 (kq ≤ k) ∧ Aside0 (Below w.heap.size w wc))
 case first =>
  have H := HC2.out
  clear HC2
  replace H := Option.bind_eq_some_iff.mp H
  obtain ⟨t390, A30, H⟩ := H
  replace H : (if t390 = true then (if 0 < (l0.length : Int) then (if ((rd_T65 l0 0).f0) = (-1) then (impl_DocOk.j0 k l0 (((rd_T65 l0 0).f1).toList == ([] : List UInt8))) else (impl_DocOk.j0 k l0 true)) else (none)) else (impl_DocOk.j0 k l0 true)) = some r := H
  have A3 := Aside0.mk A30
  clear A30
  by_cases c4 : t390 = true
  rotate_left
  ·replace c4 := Bool.eq_false_iff.mpr c4
   subst c4
   have H1 : (impl_DocOk.j0 k l0 true) = some r := by rw [if_neg (show ¬ (false = true) by decide)] at H; exact H
   clear H
   have H := H1
   clear H1
   have H' := Aside0.mk H
   clear H
   go_wp2_with (first | (go_at_call 99; (with_reducible refine (impl_in.calls (l0.length : Int) 1 200 false _ A3.out).mono ?_); rintro e w' ⟨rfl, ⟨nd, rfl⟩⟩; (try first | exact ⟨rfl, _, World.drewN_drewN _ _ _⟩ | exact ⟨rfl, _, Eq.trans (World.drewN_drewN _ _ _) (congrArg (World.drewN _) (Nat.add_assoc _ _ _))⟩)))
   go_meet
   case rel => exact ⟨_, (true), dq12, H', ⟨dq21⟩, ⟨dq9⟩⟩
  subst c4
  have H1 : (if 0 < (l0.length : Int) then (if ((rd_T65 l0 0).f0) = (-1) then (impl_DocOk.j0 k l0 (((rd_T65 l0 0).f1).toList == ([] : List UInt8))) else (impl_DocOk.j0 k l0 true)) else (none)) = some r := by rw [if_pos rfl] at H; exact H
  clear H
  have H := H1
  clear H1
  by_cases c5 : 0 < (l0.length : Int)
  rotate_left
  ·rw [if_neg c5] at H
   exact absurd H dq17
  rw [if_pos c5] at H
  have c5b0 := decide_eq_true c5
  have c5b1 : decide (0 < l0.length) = true := decide_eq_true dq20
  clear c5
  (first | rw [c5b0] | (simp only [i64_w, i32_w]; rw [c5b0]) | skip)
  by_cases c6 : ((rd_T65 l0 0).f0) = (-1)
  rotate_left
  ·rw [if_neg c6] at H
   have c6b0 := beq_eq_false_iff_ne.mpr c6
   have c6b1 := bne_iff_ne.mpr c6
   have H' := Aside0.mk H
   clear H
   go_wp2_with (first | (go_at_call 99; (with_reducible refine (impl_in.calls (l0.length : Int) 1 200 true _ A3.out).mono ?_); rintro e w' ⟨rfl, ⟨nd, rfl⟩⟩; (try first | exact ⟨rfl, _, World.drewN_drewN _ _ _⟩ | exact ⟨rfl, _, Eq.trans (World.drewN_drewN _ _ _) (congrArg (World.drewN _) (Nat.add_assoc _ _ _))⟩); have p391 : 0 ≤ (0 : Int) := dq20; have q391 : 0 < (l0.length : Int) := of_decide_eq_true dq13; obtain ⟨ad391, A391_3, c391_3, e391, hx391_0, hx391_1, hx391_2, hx391_3, hl391_3, hi391_3⟩ := at_T65 HR0.out 0 p391 q391; cases e391; have qi391 : (0 < l0.length) = True := eq_true dq20; (try rw [show ((0 : Int)).toNat = 0 from rfl] at hx391_0); (try rw [show 0 * 4 = 0 from rfl] at hx391_0); (try rw [Addr.add_zero'] at hx391_0); (try rw [show ((0 : Int)).toNat = 0 from rfl] at hx391_1); (try rw [show 0 * 4 = 0 from rfl] at hx391_1); (try rw [Addr.add_zero'] at hx391_1); (try rw [show ((0 : Int)).toNat = 0 from rfl] at hx391_2); (try rw [show 0 * 4 = 0 from rfl] at hx391_2); (try rw [Addr.add_zero'] at hx391_2); (try rw [show ((0 : Int)).toNat = 0 from rfl] at hx391_3); (try rw [show 0 * 4 = 0 from rfl] at hx391_3); (try rw [Addr.add_zero'] at hx391_3); replace hx391_0 := (HB.out.cell (World.block_lt_of_cell? w _ hx391_0)).trans hx391_0; replace hx391_1 := (HB.out.cell (World.block_lt_of_cell? w _ hx391_1)).trans hx391_1; replace hx391_2 := (HB.out.cell (World.block_lt_of_cell? w _ hx391_2)).trans hx391_2; replace hx391_3 := (HB.out.cell (World.block_lt_of_cell? w _ hx391_3)).trans hx391_3; have HR391_3 := Aside0.mk hi391_3; have HC391_3 := Aside0.mk hl391_3; clear hi391_3 hl391_3; replace p391 := eq_true p391; replace q391 := eq_true q391))
   go_meet
   case rel => exact ⟨_, (true), dq12, H', ⟨dq21⟩, ⟨dq9⟩⟩
  rw [if_pos c6] at H
  have c6b0 := beq_iff_eq.mpr c6
  have c6b1 := bne_eq_false_iff_eq.mpr c6
  clear c6
  have H' := Aside0.mk H
  clear H
  go_wp2_with (first | (go_at_call 99; (with_reducible refine (impl_in.calls (l0.length : Int) 1 200 true _ A3.out).mono ?_); rintro e w' ⟨rfl, ⟨nd, rfl⟩⟩; (try first | exact ⟨rfl, _, World.drewN_drewN _ _ _⟩ | exact ⟨rfl, _, Eq.trans (World.drewN_drewN _ _ _) (congrArg (World.drewN _) (Nat.add_assoc _ _ _))⟩); have p391 : 0 ≤ (0 : Int) := dq20; have q391 : 0 < (l0.length : Int) := of_decide_eq_true dq13; obtain ⟨ad391, A391_3, c391_3, e391, hx391_0, hx391_1, hx391_2, hx391_3, hl391_3, hi391_3⟩ := at_T65 HR0.out 0 p391 q391; cases e391; have qi391 : (0 < l0.length) = True := eq_true dq20; (try rw [show ((0 : Int)).toNat = 0 from rfl] at hx391_0); (try rw [show 0 * 4 = 0 from rfl] at hx391_0); (try rw [Addr.add_zero'] at hx391_0); (try rw [show ((0 : Int)).toNat = 0 from rfl] at hx391_1); (try rw [show 0 * 4 = 0 from rfl] at hx391_1); (try rw [Addr.add_zero'] at hx391_1); (try rw [show ((0 : Int)).toNat = 0 from rfl] at hx391_2); (try rw [show 0 * 4 = 0 from rfl] at hx391_2); (try rw [Addr.add_zero'] at hx391_2); (try rw [show ((0 : Int)).toNat = 0 from rfl] at hx391_3); (try rw [show 0 * 4 = 0 from rfl] at hx391_3); (try rw [Addr.add_zero'] at hx391_3); replace hx391_0 := (HB.out.cell (World.block_lt_of_cell? w _ hx391_0)).trans hx391_0; replace hx391_1 := (HB.out.cell (World.block_lt_of_cell? w _ hx391_1)).trans hx391_1; replace hx391_2 := (HB.out.cell (World.block_lt_of_cell? w _ hx391_2)).trans hx391_2; replace hx391_3 := (HB.out.cell (World.block_lt_of_cell? w _ hx391_3)).trans hx391_3; have HR391_3 := Aside0.mk hi391_3; have HC391_3 := Aside0.mk hl391_3; clear hi391_3 hl391_3; replace p391 := eq_true p391; replace q391 := eq_true q391; have p392 : 0 ≤ (0 : Int) := dq20; have q392 : 0 < (l0.length : Int) := of_decide_eq_true dq13; obtain ⟨ad392, A392_3, c392_3, e392, hx392_0, hx392_1, hx392_2, hx392_3, hl392_3, hi392_3⟩ := at_T65 HR0.out 0 p392 q392; obtain rfl : ad391 = ad392 := (by injection e392); have qi392 : (0 < l0.length) = True := eq_true dq20; (try rw [show ((0 : Int)).toNat = 0 from rfl] at hx392_0); (try rw [show 0 * 4 = 0 from rfl] at hx392_0); (try rw [Addr.add_zero'] at hx392_0); (try rw [show ((0 : Int)).toNat = 0 from rfl] at hx392_1); (try rw [show 0 * 4 = 0 from rfl] at hx392_1); (try rw [Addr.add_zero'] at hx392_1); (try rw [show ((0 : Int)).toNat = 0 from rfl] at hx392_2); (try rw [show 0 * 4 = 0 from rfl] at hx392_2); (try rw [Addr.add_zero'] at hx392_2); (try rw [show ((0 : Int)).toNat = 0 from rfl] at hx392_3); (try rw [show 0 * 4 = 0 from rfl] at hx392_3); (try rw [Addr.add_zero'] at hx392_3); replace hx392_0 := (HB.out.cell (World.block_lt_of_cell? w _ hx392_0)).trans hx392_0; replace hx392_1 := (HB.out.cell (World.block_lt_of_cell? w _ hx392_1)).trans hx392_1; replace hx392_2 := (HB.out.cell (World.block_lt_of_cell? w _ hx392_2)).trans hx392_2; replace hx392_3 := (HB.out.cell (World.block_lt_of_cell? w _ hx392_3)).trans hx392_3; have HR392_3 := Aside0.mk hi392_3; have HC392_3 := Aside0.mk hl392_3; clear hi392_3 hl392_3; replace p392 := eq_true p392; replace q392 := eq_true q392; have ea_ := Option.some.inj (hx391_3.symm.trans hx392_3); injection ea_ with ea_ en_ ec_; subst ea_; subst ec_; clear en_))
  go_meet
  case rel => exact ⟨_, ((((rd_T65 l0 0).f1).toList == ([] : List UInt8))), dq12, H', ⟨dq21⟩, ⟨dq9⟩⟩
 clear HC2
 obtain ⟨kq, x24_1, rfl, HA, HJ1, HB⟩ := hcut
 cases kq with
 | zero => exact absurd HA.out (by simp [impl_DocOk.j0])
 | succ kj1 =>
  have H := HA.out
  clear HA
  simp only [impl_DocOk.j0] at H
  by_cases c7 : x24_1 = true
  ·subst c7
   have H1 : (some false) = some r := by rw [if_pos rfl] at H; exact H
   clear H
   have H := H1
   clear H1
   obtain rfl := Option.some.inj H
   go_wp2
   go_ret
   exact ⟨dq11, dq9⟩
  replace c7 := Bool.eq_false_iff.mpr c7
  subst c7
  have H1 : (impl_DocOk.l0 kj1 l0 0 (([] : List Int)) l0 (l0.length : Int) 0) = some r := by rw [if_neg (show ¬ (false = true) by decide)] at H; exact H
  clear H
  have H := H1
  clear H1
  obtain ⟨y393, hy393⟩ : ∃ y_ : List Int, y_ = (([] : List Int)) := ⟨_, rfl⟩
  replace H : (impl_DocOk.l0 kj1 l0 0 y393 l0 (l0.length : Int) 0) = some r := by first | (rw [hy393]; with_reducible exact H) | (have H2_ := (Option.bind_some _ _).symm.trans H; rw [hy393]; with_reducible exact H2_) | (have H2_ := (Option.bind_some _ _).symm.trans H; with_reducible exact H2_) | with_reducible exact H | (rw [hy393]; exact H) | exact H
  have Ny393 := Aside0.mk hy393
  clear hy393
  have H' := Aside0.mk H
  clear H
  go_wp2_with (first | ((with_reducible refine gate_dst (N := 25) rfl ?_); (try (refine gate_guard (by rfl) ?_; dsimp only)); refine Kd.R_lit (Kd.int .i64) _ 2 ?hg (N := 25) ?hd (xs := ([] : List Int)) (inner := []) (ok := fun _ => True) (okp := fun _ => True) ?hr ?hp (fun _ hk => hk) trivial (Below.refl _ _) (Nat.le_refl _) dq17 ?_; (case hd => rfl); (case hg => rfl); (case hr => exact dq0); (case hp => exact (Reps.none _ _)); intro v394 w8 ho9 hb hg_ hnew_; clear hg_ hnew_; (first | rw [← Ny393.out] at ho9 | (simp only [Int.reduceToNat] at ho9; rw [← Ny393.out] at ho9)); have n0_ := Aside0.mk (Kd.R_lower ho9 (below_size dq9)); have n1_ := Aside0.mk (below_step dq9 hb); clear HB; have HO395 := n0_; have HB := n1_; clear n0_ n1_; clear hb ho9))
  go_loopg [3, 4, 28] kj1 (fun kq v3 v4 v28 w' => ∃ (x3_2 : Int) (x4_2 : List Int) (x28_2 : Int), v3 = .int .i64 x3_2 ∧ v28 = .int .i64 x28_2 ∧ Aside0 (impl_DocOk.l0 kq l0 x3_2 x4_2 l0 (l0.length : Int) x28_2 = some r) ∧ Aside0 (kq ≤ kj1) ∧ Aside0 (Kd.R (Kd.int .i64) 2 w' w.heap.size (fun _ => True) v4 x4_2) ∧ Aside0 (Below w.heap.size w w'))
  case atStart => exact ⟨(0), (y393), (0), dq12, dq12, H', ⟨Nat.le_refl _⟩, ⟨by (with_reducible repeat (first | apply Kd.R_alloc | apply Kd.R_drewN | apply Kd.R_drew)); exact HO395.out⟩, ⟨dq9⟩⟩
  clear H'
  obtain ⟨x3_2, x4_2, x28_2, rfl, rfl, HA, HK2, HO_4, HB⟩ := hrel
  cases gk with
  | zero => exact absurd HA.out (by simp [impl_DocOk.l0])
  | succ k2 =>
   have H := HA.out
   clear HA
   simp only [impl_DocOk.l0] at H
   by_cases c10 : x28_2 < (l0.length : Int)
   rotate_left
   ·rw [if_neg c10] at H
    have c10b0 := decide_eq_false c10
    clear c10
    obtain rfl := Option.some.inj H
    go_wp2
    go_ret
    exact ⟨dq11, dq9⟩
   rw [if_pos c10] at H
   have c10b0 := decide_eq_true c10
   clear c10
   by_cases c11 : 0 ≤ x28_2
   rotate_left
   ·rw [if_neg c11] at H
    exact absurd H dq17
   rw [if_pos c11] at H
   have c11b0 := decide_eq_true c11
   clear c11
   by_cases c12 : x28_2 < (l0.length : Int)
   rotate_left
   ·rw [if_neg c12] at H
    exact absurd H dq17
   rw [if_pos c12] at H
   have c12b0 := decide_eq_true c12
   clear c12
   replace H := Option.bind_eq_some_iff.mp H
   obtain ⟨t398, A130, H⟩ := H
   replace H : (if t398 = true then ((impl_Item_bytes.f k2 ((rd_T65 l0 x28_2).f0) ((rd_T65 l0 x28_2).f1) ((rd_T65 l0 x28_2).f2) ((rd_T65 l0 x28_2).f3)).bind fun t399 => (impl_DocOk.l1 k2 l0 (wrap64 (x3_2 + t399)) x4_2 x28_2 l0 (l0.length : Int) x28_2 ((rd_T65 l0 x28_2).f0) ((rd_T65 l0 x28_2).f1) ((rd_T65 l0 x28_2).f2) ((rd_T65 l0 x28_2).f3))) else (some false)) = some r := H
   have A13 := Aside0.mk A130
   clear A130
   by_cases c14 : t398 = true
   rotate_left
   ·replace c14 := Bool.eq_false_iff.mpr c14
    subst c14
    have H1 : (some false) = some r := by rw [if_neg (show ¬ (false = true) by decide)] at H; exact H
    clear H
    have H := H1
    clear H1
    obtain rfl := Option.some.inj H
    have p396 : 0 ≤ (x28_2 : Int) := of_decide_eq_true dq13
    have q396 : x28_2 < (l0.length : Int) := of_decide_eq_true dq13
    obtain ⟨ad396, A396_3, c396_3, e396, hx396_0, hx396_1, hx396_2, hx396_3, hl396_3, hi396_3⟩ := at_T65 HR0.out x28_2 p396 q396
    cases e396
    replace hx396_0 := (HB.out.cell (World.block_lt_of_cell? w _ hx396_0)).trans hx396_0
    replace hx396_1 := (HB.out.cell (World.block_lt_of_cell? w _ hx396_1)).trans hx396_1
    replace hx396_2 := (HB.out.cell (World.block_lt_of_cell? w _ hx396_2)).trans hx396_2
    replace hx396_3 := (HB.out.cell (World.block_lt_of_cell? w _ hx396_3)).trans hx396_3
    have HR396_3 := Aside0.mk hi396_3
    have HC396_3 := Aside0.mk hl396_3
    clear hi396_3 hl396_3
    replace p396 := eq_true p396
    replace q396 := eq_true q396
    go_wp2_with (first | ((with_reducible refine gate_dst (N := 6) rfl ?_); (try (refine gate_guard (by rfl) ?_; dsimp only)); refine box_event ?hg (N := 6) ?hd (cs := #[.int .i64 0, .string (⟨#[]⟩ : ByteArray), .string (⟨#[]⟩ : ByteArray), .slice none 0 0]) (t := 65) ?hr ?_; (case hd => rfl); (case hg => rfl); (case hr => exact dq0); intro gb397 hg w55 hbox hb; have n0_ := Aside0.mk (Kd.R_below dq23 hb); have n1_ := Aside0.mk (below_step dq9 hb); have n2_ := Aside0.mk (hbox); have n3_ := Aside0.mk ((dq8 : w.heap.size ≤ gb397)); have n4_ := Aside0.mk ((dq8 : w.heap.size ≤ gb397)); clear HO_4; clear HB; have HO_4 := n0_; have HB := n1_; have BK397 := n2_; have GW397 := n3_; have GE397 := n4_; clear n0_ n1_ n2_ n3_ n4_; clear hb hbox hg; obtain ⟨⟨hcz56_0, hcz56_1, hcz56_2, hcz56_3⟩, hfz56_0, hfz56_1, hfz56_2, hfz56_3⟩ := blkC4 BK397.out) | (go_at_call 104; (with_reducible refine (impl_Item_isGood.calls k2 ((rd_T65 l0 x28_2).f0) ((rd_T65 l0 x28_2).f1) ((rd_T65 l0 x28_2).f2) _ _ ((rd_T65 l0 x28_2).f3) false _ ?side3 ?side1 ?side2 A13.out).mono ?_); (case side1 => exact dq6); (case side2 => exact HC396_3.out); (case side3 => exact dq7); rintro e w57 ⟨rfl, hb⟩; have n0_ := Aside0.mk (Kd.R_below dq85 hb); have n1_ := Aside0.mk (blk_below (g := gb397) (o := .cells #[.int .i64 ((rd_T65 l0 x28_2).f0), .string ((rd_T65 l0 x28_2).f1), .string ((rd_T65 l0 x28_2).f2), .slice A396_3 ((rd_T65 l0 x28_2).f3).length c396_3] 65 (0, 0)) dq84 hb); have n2_ := Aside0.mk (below_step dq82 hb); clear HO_4; clear BK397; clear HB; have HO_4 := n0_; have BK397 := n1_; have HB := n2_; clear n0_ n1_ n2_; (try clear hb); (try clear hb2); (try clear hk); (try clear hi)))
    go_ret
    exact ⟨dq11, dq82⟩
   subst c14
   have H1 : ((impl_Item_bytes.f k2 ((rd_T65 l0 x28_2).f0) ((rd_T65 l0 x28_2).f1) ((rd_T65 l0 x28_2).f2) ((rd_T65 l0 x28_2).f3)).bind fun t399 => (impl_DocOk.l1 k2 l0 (wrap64 (x3_2 + t399)) x4_2 x28_2 l0 (l0.length : Int) x28_2 ((rd_T65 l0 x28_2).f0) ((rd_T65 l0 x28_2).f1) ((rd_T65 l0 x28_2).f2) ((rd_T65 l0 x28_2).f3))) = some r := by rw [if_pos rfl] at H; exact H
   clear H
   have H := H1
   clear H1
   replace H := Option.bind_eq_some_iff.mp H
   obtain ⟨t399, A150, H⟩ := H
   replace H : (impl_DocOk.l1 k2 l0 (wrap64 (x3_2 + t399)) x4_2 x28_2 l0 (l0.length : Int) x28_2 ((rd_T65 l0 x28_2).f0) ((rd_T65 l0 x28_2).f1) ((rd_T65 l0 x28_2).f2) ((rd_T65 l0 x28_2).f3)) = some r := H
   have A15 := Aside0.mk A150
   clear A150
   have HC16 := Aside0.mk H
   clear H
   have p396 : 0 ≤ (x28_2 : Int) := of_decide_eq_true dq13
   have q396 : x28_2 < (l0.length : Int) := of_decide_eq_true dq13
   obtain ⟨ad396, A396_3, c396_3, e396, hx396_0, hx396_1, hx396_2, hx396_3, hl396_3, hi396_3⟩ := at_T65 HR0.out x28_2 p396 q396
   cases e396
   replace hx396_0 := (HB.out.cell (World.block_lt_of_cell? w _ hx396_0)).trans hx396_0
   replace hx396_1 := (HB.out.cell (World.block_lt_of_cell? w _ hx396_1)).trans hx396_1
   replace hx396_2 := (HB.out.cell (World.block_lt_of_cell? w _ hx396_2)).trans hx396_2
   replace hx396_3 := (HB.out.cell (World.block_lt_of_cell? w _ hx396_3)).trans hx396_3
   have HR396_3 := Aside0.mk hi396_3
   have HC396_3 := Aside0.mk hl396_3
   clear hi396_3 hl396_3
   replace p396 := eq_true p396
   replace q396 := eq_true q396
   go_upto_block 2 with (first | ((with_reducible refine gate_dst (N := 6) rfl ?_); (try (refine gate_guard (by rfl) ?_; dsimp only)); refine box_event ?hg (N := 6) ?hd (cs := #[.int .i64 0, .string (⟨#[]⟩ : ByteArray), .string (⟨#[]⟩ : ByteArray), .slice none 0 0]) (t := 65) ?hr ?_; (case hd => rfl); (case hg => rfl); (case hr => exact dq0); intro gb397 hg w17 hbox hb; have n0_ := Aside0.mk (Kd.R_below dq23 hb); have n1_ := Aside0.mk (below_step dq9 hb); have n2_ := Aside0.mk (hbox); have n3_ := Aside0.mk ((dq8 : w.heap.size ≤ gb397)); have n4_ := Aside0.mk ((dq8 : w.heap.size ≤ gb397)); clear HO_4; clear HB; have HO_4 := n0_; have HB := n1_; have BK397 := n2_; have GW397 := n3_; have GE397 := n4_; clear n0_ n1_ n2_ n3_ n4_; clear hb hbox hg; obtain ⟨⟨hcz18_0, hcz18_1, hcz18_2, hcz18_3⟩, hfz18_0, hfz18_1, hfz18_2, hfz18_3⟩ := blkC4 BK397.out) | (go_at_call 104; (with_reducible refine (impl_Item_isGood.calls k2 ((rd_T65 l0 x28_2).f0) ((rd_T65 l0 x28_2).f1) ((rd_T65 l0 x28_2).f2) _ _ ((rd_T65 l0 x28_2).f3) true _ ?side3 ?side1 ?side2 A13.out).mono ?_); (case side1 => exact dq6); (case side2 => exact HC396_3.out); (case side3 => exact dq7); rintro e w19 ⟨rfl, hb⟩; have n0_ := Aside0.mk (Kd.R_below dq85 hb); have n1_ := Aside0.mk (blk_below (g := gb397) (o := .cells #[.int .i64 ((rd_T65 l0 x28_2).f0), .string ((rd_T65 l0 x28_2).f1), .string ((rd_T65 l0 x28_2).f2), .slice A396_3 ((rd_T65 l0 x28_2).f3).length c396_3] 65 (0, 0)) dq84 hb); have n2_ := Aside0.mk (below_step dq82 hb); clear HO_4; clear BK397; clear HB; have HO_4 := n0_; have BK397 := n1_; have HB := n2_; clear n0_ n1_ n2_; (try clear hb); (try clear hb2); (try clear hk); (try clear hi); obtain ⟨⟨hcz20_0, hcz20_1, hcz20_2, hcz20_3⟩, hfz20_0, hfz20_1, hfz20_2, hfz20_3⟩ := blkC4 BK397.out) | (go_at_call 105; (with_reducible refine (impl_Item_bytes.calls k2 ((rd_T65 l0 x28_2).f0) ((rd_T65 l0 x28_2).f1) ((rd_T65 l0 x28_2).f2) _ _ ((rd_T65 l0 x28_2).f3) t399 _ ?side1 ?side2 A15.out).mono ?_); (case side1 => repeat (first | exact (Kd.C_below HR396_3.out HB.out) | (with_reducible refine Kd.C_alloc ?_ _) | (with_reducible refine Kd.C_drewN ?_ _) | (with_reducible refine Kd.C_drew ?_))); (case side2 => exact HC396_3.out); rintro e w21 ⟨rfl, hb⟩; have n0_ := Aside0.mk (Kd.R_below dq23 hb); have n1_ := Aside0.mk (blk_below (g := gb397) (o := .cells #[.int .i64 ((rd_T65 l0 x28_2).f0), .string ((rd_T65 l0 x28_2).f1), .string ((rd_T65 l0 x28_2).f2), .slice A396_3 ((rd_T65 l0 x28_2).f3).length c396_3] 65 (0, 0)) dq83 hb); have n2_ := Aside0.mk (below_step dq82 hb); clear HO_4; clear BK397; clear HB; have HO_4 := n0_; have BK397 := n1_; have HB := n2_; clear n0_ n1_ n2_; (try clear hb); (try clear hb2); (try clear hk); (try clear hi)))
   (try simp only [Act.put, List.setIfInBounds_toArray, List.set_cons_zero, List.set_cons_succ])
   go_cut [4] (fun v4 wc => ∃ (kq : Nat) (x4_15 : List Int), Aside0 (impl_DocOk.j3 kq l0 (wrap64 (x3_2 + t399)) x4_15 x28_2 l0 (l0.length : Int) x28_2 ((rd_T65 l0 x28_2).f0) ((rd_T65 l0 x28_2).f1) ((rd_T65 l0 x28_2).f2) ((rd_T65 l0 x28_2).f3) = some r) ∧ Aside0 (kq ≤ k2) ∧ Aside0 (Kd.R (Kd.int .i64) 2 wc w.heap.size (fun _ => True) v4 x4_15) ∧ Aside0 (wc.heap[gb397]? = some (.cells #[.int .i64 ((rd_T65 l0 x28_2).f0), .string ((rd_T65 l0 x28_2).f1), .string ((rd_T65 l0 x28_2).f2), (.slice A396_3 ((rd_T65 l0 x28_2).f3).length c396_3)] 65 (0, 0))) ∧ Aside0 (Below w.heap.size w wc))
   case first =>
    have H := HC16.out
    clear HC16
    have H' := Aside0.mk H
    clear H
    go_wp2
    go_loopg [4] k2 (fun kq v4 w' => ∃ (x4_3 : List Int), Aside0 (impl_DocOk.l1 kq l0 (wrap64 (x3_2 + t399)) x4_3 x28_2 l0 (l0.length : Int) x28_2 ((rd_T65 l0 x28_2).f0) ((rd_T65 l0 x28_2).f1) ((rd_T65 l0 x28_2).f2) ((rd_T65 l0 x28_2).f3) = some r) ∧ Aside0 (kq ≤ k2) ∧ Aside0 (Kd.R (Kd.int .i64) 2 w' w.heap.size (fun _ => True) v4 x4_3) ∧ Aside0 (w'.heap[gb397]? = some (.cells #[.int .i64 ((rd_T65 l0 x28_2).f0), .string ((rd_T65 l0 x28_2).f1), .string ((rd_T65 l0 x28_2).f2), (.slice A396_3 ((rd_T65 l0 x28_2).f3).length c396_3)] 65 (0, 0))) ∧ Aside0 (Below w.heap.size w w'))
    case atStart => exact ⟨(x4_2), H', ⟨Nat.le_refl _⟩, ⟨dq23⟩, ⟨dq83⟩, ⟨dq82⟩⟩
    clear H'
    try clear c10b0
    try clear c11b0
    try clear c12b0
    try clear hcz18_0
    try clear hcz18_1
    try clear hcz18_2
    try clear hcz18_3
    try clear hcz20_0
    try clear hcz20_1
    try clear hcz20_2
    try clear hcz20_3
    try clear hfz18_0
    try clear hfz18_1
    try clear hfz18_2
    try clear hfz18_3
    try clear hfz20_0
    try clear hfz20_1
    try clear hfz20_2
    try clear hfz20_3
    try clear hx396_0
    try clear hx396_1
    try clear hx396_2
    try clear hx396_3
    try clear p396
    try clear q396
    obtain ⟨x4_3, HA, HK3, HO_4, BK397, HB⟩ := hrel
    cases gk with
    | zero => exact absurd HA.out (by simp [impl_DocOk.l1])
    | succ k3 =>
     have H := HA.out
     clear HA
     simp only [impl_DocOk.l1] at H
     by_cases c22 : (x4_3.length : Int) > 0
     rotate_left
     ·rw [if_neg c22] at H
      have c22b0 : decide (0 < (x4_3.length : Int)) = false := decide_eq_false c22
      have c22b1 : decide (0 < x4_3.length) = false := decide_eq_false dq20
      clear c22
      (first | rw [c22b0] | (simp only [i64_w, i32_w]; rw [c22b0]) | skip)
      have H' := Aside0.mk H
      clear H
      obtain ⟨Ao33, co33, eo33⟩ := Kd.R_slice HO_4.out
      subst eo33
      go_wp2
      repeat (go_quiet (fail); try go_wp2)
      go_meet
      case rel => exact ⟨_, (x4_3), H', ⟨dq29⟩, ⟨dq23⟩, ⟨dq83⟩, ⟨dq82⟩⟩
     rw [if_pos c22] at H
     have c22b0 : decide (0 < (x4_3.length : Int)) = true := decide_eq_true c22
     have c22b1 : decide (0 < x4_3.length) = true := decide_eq_true dq20
     clear c22
     (first | rw [c22b0] | (simp only [i64_w, i32_w]; rw [c22b0]) | skip)
     obtain ⟨ji23, hji23⟩ : ∃ j_ : Int, (wrap64 ((x4_3.length : Int) - 1)) = j_ := ⟨_, rfl⟩
     replace H : (if 0 ≤ (ji23) then (if (ji23) < (x4_3.length : Int) then (if (rd x4_3 (ji23)) = ((rd_T65 l0 x28_2).f0) then (impl_DocOk.j3 k3 l0 (wrap64 (x3_2 + t399)) x4_3 x28_2 l0 (l0.length : Int) x28_2 ((rd_T65 l0 x28_2).f0) ((rd_T65 l0 x28_2).f1) ((rd_T65 l0 x28_2).f2) ((rd_T65 l0 x28_2).f3)) else (if (ji23) ≤ (x4_3.length : Int) then (impl_DocOk.l1 k3 l0 (wrap64 (x3_2 + t399)) (x4_3.take ((ji23) : Int).toNat) x28_2 l0 (l0.length : Int) x28_2 ((rd_T65 l0 x28_2).f0) ((rd_T65 l0 x28_2).f1) ((rd_T65 l0 x28_2).f2) ((rd_T65 l0 x28_2).f3)) else (none))) else (none)) else (none)) = some r := by first | (rw [hji23] at H; exact H) | (simp only [hji23] at H ⊢; exact H)
     have hji23w : (IntKind.i64.wrap ((x4_3.length : Int) - 1)) = ji23 := (i64_w _).trans hji23
     by_cases c24 : 0 ≤ (ji23)
     rotate_left
     ·rw [if_neg c24] at H
      exact absurd H dq17
     rw [if_pos c24] at H
     have c24b0 := decide_eq_true c24
     clear c24
     by_cases c25 : (ji23) < (x4_3.length : Int)
     rotate_left
     ·rw [if_neg c25] at H
      exact absurd H dq17
     rw [if_pos c25] at H
     have c25b0 := decide_eq_true c25
     clear c25
     by_cases c26 : (rd x4_3 (ji23)) = ((rd_T65 l0 x28_2).f0)
     ·rw [if_pos c26] at H
      have c26b0 := beq_iff_eq.mpr c26
      have c26b1 := bne_eq_false_iff_eq.mpr c26
      clear c26
      have H' := Aside0.mk H
      clear H
      obtain ⟨Ao27, co27, eo27⟩ := Kd.R_slice HO_4.out
      subst eo27
      have p400 : 0 ≤ ((ji23) : Int) := of_decide_eq_true dq13
      have q400 : (ji23) < (x4_3.length : Int) := of_decide_eq_true dq13
      obtain ⟨ad400, e400, hx400_0⟩ := Kd.at_int (Kd.R_reads' HO_4.out).2.2 (ji23) p400 q400
      cases e400
      replace p400 := eq_true p400
      replace q400 := eq_true q400
      obtain ⟨⟨hcz28_0, hcz28_1, hcz28_2, hcz28_3⟩, hfz28_0, hfz28_1, hfz28_2, hfz28_3⟩ := blkC4 BK397.out
      go_wp2
      repeat (go_quiet (fail); try go_wp2)
      go_meet
      case rel => exact ⟨_, (x4_3), H', ⟨dq29⟩, ⟨dq23⟩, ⟨dq83⟩, ⟨dq82⟩⟩
     rw [if_neg c26] at H
     have c26b0 := beq_eq_false_iff_ne.mpr c26
     have c26b1 := bne_iff_ne.mpr c26
     by_cases c29 : (ji23) ≤ (x4_3.length : Int)
     rotate_left
     ·rw [if_neg c29] at H
      exact absurd H dq17
     rw [if_pos c29] at H
     have c29b0 := eq_true c29
     have c29b1 := decide_eq_true c29
     clear c29
     obtain ⟨y401, hy401⟩ : ∃ y_ : List Int, y_ = (x4_3.take ((ji23) : Int).toNat) := ⟨_, rfl⟩
     replace H : (impl_DocOk.l1 k3 l0 (wrap64 (x3_2 + t399)) y401 x28_2 l0 (l0.length : Int) x28_2 ((rd_T65 l0 x28_2).f0) ((rd_T65 l0 x28_2).f1) ((rd_T65 l0 x28_2).f2) ((rd_T65 l0 x28_2).f3)) = some r := by first | (rw [hy401]; with_reducible exact H) | (have H2_ := (Option.bind_some _ _).symm.trans H; rw [hy401]; with_reducible exact H2_) | (have H2_ := (Option.bind_some _ _).symm.trans H; with_reducible exact H2_) | with_reducible exact H | (rw [hy401]; exact H) | exact H
     have Ny401 := Aside0.mk hy401
     clear hy401
     have H' := Aside0.mk H
     clear H
     obtain ⟨Ao30, co30, eo30⟩ := Kd.R_slice HO_4.out
     subst eo30
     have p400 : 0 ≤ ((ji23) : Int) := of_decide_eq_true dq13
     have q400 : (ji23) < (x4_3.length : Int) := of_decide_eq_true dq13
     obtain ⟨ad400, e400, hx400_0⟩ := Kd.at_int (Kd.R_reads' HO_4.out).2.2 (ji23) p400 q400
     cases e400
     replace p400 := eq_true p400
     replace q400 := eq_true q400
     obtain ⟨⟨hcz31_0, hcz31_1, hcz31_2, hcz31_3⟩, hfz31_0, hfz31_1, hfz31_2, hfz31_3⟩ := blkC4 BK397.out
     have q32 : ((ji23) : Int) ≤ ((x4_3.length : Int) : Int) := of_decide_eq_true dq13
     obtain ⟨i032, hi032, _, hsz32, _⟩ := info_parts info2
     have hcut32 := cut_to (P := Tryz.prog) 47 2 .i64 Tryz.underlying47 hi032 (some ad400) x4_3.length co30 (ji23) (of_decide_eq_true dq13) q32 (Kd.R_reads' HO_4.out).2.1
     have hr32 := Kd.R_take (m := ((ji23) : Int).toNat) HO_4.out dq20
     have hy32 : y401.length = ((ji23) : Int).toNat := (by rw [Ny401.out, List.length_take]; omega)
     rw [← Ny401.out] at hr32
     rw [← hy32] at hr32 hcut32
     clear hy32 hi032 hsz32 HO_4
     have HO403 := Aside0.mk hr32
     clear hr32
     replace q32 := eq_true q32
     go_wp2
     repeat (go_quiet (fail); try go_wp2)
     go_roundg k3
     case measure => have := HJ1.out; have := HK2.out; have := HK3.out; omega
     case rel => exact ⟨(y401), H', ⟨by have := HJ1.out; have := HK2.out; have := HK3.out; omega⟩, ⟨by (with_reducible repeat (first | apply Kd.R_alloc | apply Kd.R_drewN | apply Kd.R_drew)); exact HO403.out⟩, ⟨dq83⟩, ⟨dq82⟩⟩
   clear HC16
   try clear c10b0
   try clear c11b0
   try clear c12b0
   try clear hcz18_0
   try clear hcz18_1
   try clear hcz18_2
   try clear hcz18_3
   try clear hcz20_0
   try clear hcz20_1
   try clear hcz20_2
   try clear hcz20_3
   try clear hfz18_0
   try clear hfz18_1
   try clear hfz18_2
   try clear hfz18_3
   try clear hfz20_0
   try clear hfz20_1
   try clear hfz20_2
   try clear hfz20_3
   try clear hx396_0
   try clear hx396_1
   try clear hx396_2
   try clear hx396_3
   try clear p396
   try clear q396
   obtain ⟨kq, x4_15, HA, HJ15, HO_4, BK397, HB⟩ := hcut
   cases kq with
   | zero => exact absurd HA.out (by simp [impl_DocOk.j3])
   | succ kj15 =>
    have H := HA.out
    clear HA
    simp only [impl_DocOk.j3] at H
    have HC34 := Aside0.mk H
    clear H
    go_upto_region 12 with (fail)
    go_cut [70] (fun v70 wc => ∃ (kq : Nat) (x70_33 : Bool), v70 = .bool x70_33 ∧ Aside0 (impl_DocOk.j4 kq l0 (wrap64 (x3_2 + t399)) x4_15 x28_2 l0 (l0.length : Int) x28_2 x70_33 ((rd_T65 l0 x28_2).f0) ((rd_T65 l0 x28_2).f1) ((rd_T65 l0 x28_2).f2) ((rd_T65 l0 x28_2).f3) = some r) ∧ Aside0 (kq ≤ kj15) ∧ Aside0 (Kd.R (Kd.int .i64) 2 wc w.heap.size (fun _ => True) u4 x4_15) ∧ Aside0 (wc.heap[gb397]? = some (.cells #[.int .i64 ((rd_T65 l0 x28_2).f0), .string ((rd_T65 l0 x28_2).f1), .string ((rd_T65 l0 x28_2).f2), (.slice A396_3 ((rd_T65 l0 x28_2).f3).length c396_3)] 65 (0, 0))) ∧ Aside0 (Below w.heap.size w wc))
    case first =>
     have H := HC34.out
     clear HC34
     by_cases c35 : x28_2 > 0
     rotate_left
     ·rw [if_neg c35] at H
      have c35b0 : decide (0 < x28_2) = false := decide_eq_false c35
      clear c35
      (first | rw [c35b0] | (simp only [i64_w, i32_w]; rw [c35b0]) | skip)
      have H' := Aside0.mk H
      clear H
      obtain ⟨Ao39, co39, eo39⟩ := Kd.R_slice HO_4.out
      subst eo39
      go_wp2
      go_meet
      case rel => exact ⟨_, (decide ((x4_15.length : Int) ≥ 20)), dq12, H', ⟨dq86⟩, ⟨dq23⟩, ⟨dq83⟩, ⟨dq82⟩⟩
     rw [if_pos c35] at H
     have c35b0 : decide (0 < x28_2) = true := decide_eq_true c35
     clear c35
     (first | rw [c35b0] | (simp only [i64_w, i32_w]; rw [c35b0]) | skip)
     by_cases c36 : (x4_15.length : Int) = 0
     ·rw [if_pos c36] at H
      have c36b0 := beq_iff_eq.mpr c36
      have c36b1 := bne_eq_false_iff_eq.mpr c36
      clear c36
      have H' := Aside0.mk H
      clear H
      obtain ⟨Ao37, co37, eo37⟩ := Kd.R_slice HO_4.out
      subst eo37
      go_wp2
      go_meet
      case rel => exact ⟨_, (true), dq12, H', ⟨dq86⟩, ⟨dq23⟩, ⟨dq83⟩, ⟨dq82⟩⟩
     rw [if_neg c36] at H
     have c36b0 := beq_eq_false_iff_ne.mpr c36
     have c36b1 := bne_iff_ne.mpr c36
     have c36b2 : ¬ (x4_15 = []) := fun h_ => c36 (by rw [h_]; rfl)
     have H' := Aside0.mk H
     clear H
     obtain ⟨Ao38, co38, eo38⟩ := Kd.R_slice HO_4.out
     subst eo38
     go_wp2
     go_meet
     case rel => exact ⟨_, (decide ((x4_15.length : Int) ≥ 20)), dq12, H', ⟨dq86⟩, ⟨dq23⟩, ⟨dq83⟩, ⟨dq82⟩⟩
    clear HC34
    obtain ⟨kq, x70_33, rfl, HA, HJ33, HO_4, BK397, HB⟩ := hcut
    cases kq with
    | zero => exact absurd HA.out (by simp [impl_DocOk.j4])
    | succ kj33 =>
     have H := HA.out
     clear HA
     simp only [impl_DocOk.j4] at H
     by_cases c40 : x70_33 = true
     ·subst c40
      have H1 : (some false) = some r := by rw [if_pos rfl] at H; exact H
      clear H
      have H := H1
      clear H1
      obtain rfl := Option.some.inj H
      go_wp2
      go_ret
      exact ⟨dq11, dq82⟩
     replace c40 := Bool.eq_false_iff.mpr c40
     subst c40
     have H1 : (if ((rd_T65 l0 x28_2).f1).toList = ([] : List UInt8) then (if x28_2 > 0 then (if 0 ≤ (wrap64 (x28_2 - 1)) then (if (wrap64 (x28_2 - 1)) < (l0.length : Int) then (if ((rd_T65 l0 (wrap64 (x28_2 - 1))).f1).toList = ([] : List UInt8) then (if ((rd_T65 l0 (wrap64 (x28_2 - 1))).f0) = ((rd_T65 l0 x28_2).f0) then (some false) else (impl_DocOk.l0 kj33 l0 (wrap64 (x3_2 + t399)) x4_15 l0 (l0.length : Int) (wrap64 (x28_2 + 1)))) else (impl_DocOk.l0 kj33 l0 (wrap64 (x3_2 + t399)) x4_15 l0 (l0.length : Int) (wrap64 (x28_2 + 1)))) else (none)) else (none)) else (impl_DocOk.l0 kj33 l0 (wrap64 (x3_2 + t399)) x4_15 l0 (l0.length : Int) (wrap64 (x28_2 + 1)))) else (if x4_15.length < 17592186044416 then (impl_DocOk.l0 kj33 l0 (wrap64 (x3_2 + t399)) (x4_15 ++ [x28_2]) l0 (l0.length : Int) (wrap64 (x28_2 + 1))) else (none))) = some r := by rw [if_neg (show ¬ (false = true) by decide)] at H; exact H
     clear H
     have H := H1
     clear H1
     by_cases c41 : ((rd_T65 l0 x28_2).f1).toList = ([] : List UInt8)
     rotate_left
     ·rw [if_neg c41] at H
      have c41b0 := beq_eq_false_iff_ne.mpr c41
      have c41b1 := bne_iff_ne.mpr c41
      by_cases c52 : x4_15.length < 17592186044416
      rotate_left
      ·rw [if_neg c52] at H
       exact absurd H dq17
      rw [if_pos c52] at H
      have LMc52 := Aside0.mk c52
      clear c52
      obtain ⟨y406, hy406⟩ : ∃ y_ : List Int, y_ = (x4_15 ++ [x28_2]) := ⟨_, rfl⟩
      replace H : (impl_DocOk.l0 kj33 l0 (wrap64 (x3_2 + t399)) y406 l0 (l0.length : Int) (wrap64 (x28_2 + 1))) = some r := by first | (rw [hy406]; with_reducible exact H) | (have H2_ := (Option.bind_some _ _).symm.trans H; rw [hy406]; with_reducible exact H2_) | (have H2_ := (Option.bind_some _ _).symm.trans H; with_reducible exact H2_) | with_reducible exact H | (rw [hy406]; exact H) | exact H
      have Ny406 := Aside0.mk hy406
      clear hy406
      have H' := Aside0.mk H
      clear H
      obtain ⟨⟨hcz53_0, hcz53_1, hcz53_2, hcz53_3⟩, hfz53_0, hfz53_1, hfz53_2, hfz53_3⟩ := blkC4 BK397.out
      go_wp2_with (first | ((with_reducible refine gate_builtin (b := .append) (xs := #[.tmp 74, .tmp 76]) rfl ?_); (try (refine gate_guard (by rfl) ?_; dsimp only)); at_builtin; refine Kd.R_append (Kd.int .i64) (w0 := w) w.heap.size rfl (.tmp 74) (.tmp 76) 47 2 (.int .i64 0) 8 rfl Tryz.underlying47 info2 rfl dq24 dq20 u4 x4_15 x28_2 [.int .i64 x28_2] (fun _ => True) (fun _ => False) rfl rfl ?aP (fun _ hk => hk.elim) ?aF ?aO ?aB ?aS ?aL ?_; (case aP => exact rfl); (case aB => exact dq82); (case aF => exact (fun _ _ => trivial)); (case aO => exact dq23); (case aS => exact (below_size dq82)); (case aL => have := LMc52.out; omega); intro v407 w54 ho hb hg hat; rw [← Ny406.out] at ho; have n0_ := Aside0.mk (blk_grown (g := gb397) (o := .cells #[.int .i64 ((rd_T65 l0 x28_2).f0), .string ((rd_T65 l0 x28_2).f1), .string ((rd_T65 l0 x28_2).f2), .slice A396_3 ((rd_T65 l0 x28_2).f3).length c396_3] 65 (0, 0)) dq83 hg (Kd.R_ne HO_4.out BK397.out dq24)); have n1_ := Aside0.mk (hb); have n2_ := Aside0.mk (ho); clear BK397; clear HB; clear HO_4; have BK397 := n0_; have HB := n1_; have HO408 := n2_; clear n0_ n1_ n2_; clear ho hb hg hat))
      go_roundg kj33
      case measure => have := HJ1.out; have := HK2.out; have := HJ15.out; have := HJ33.out; omega
      case rel => exact ⟨((wrap64 (x3_2 + t399))), (y406), (wrap64 (x28_2 + 1)), dq12, dq12, H', ⟨dq87⟩, ⟨by (with_reducible repeat (first | apply Kd.R_alloc | apply Kd.R_drewN | apply Kd.R_drew)); exact HO408.out⟩, ⟨dq82⟩⟩
     rw [if_pos c41] at H
     have c41b0 := beq_iff_eq.mpr c41
     have c41b1 := bne_eq_false_iff_eq.mpr c41
     clear c41
     by_cases c42 : x28_2 > 0
     rotate_left
     ·rw [if_neg c42] at H
      have c42b0 : decide (0 < x28_2) = false := decide_eq_false c42
      clear c42
      have H' := Aside0.mk H
      clear H
      obtain ⟨⟨hcz51_0, hcz51_1, hcz51_2, hcz51_3⟩, hfz51_0, hfz51_1, hfz51_2, hfz51_3⟩ := blkC4 BK397.out
      go_wp2
      repeat (go_quiet (fail); try go_wp2)
      go_roundg kj33
      case measure => have := HJ1.out; have := HK2.out; have := HJ15.out; have := HJ33.out; omega
      case rel => exact ⟨((wrap64 (x3_2 + t399))), (x4_15), (wrap64 (x28_2 + 1)), dq12, dq12, H', ⟨dq87⟩, ⟨dq23⟩, ⟨dq82⟩⟩
     rw [if_pos c42] at H
     have c42b0 : decide (0 < x28_2) = true := decide_eq_true c42
     clear c42
     obtain ⟨ji43, hji43⟩ : ∃ j_ : Int, (wrap64 (x28_2 - 1)) = j_ := ⟨_, rfl⟩
     replace H : (if 0 ≤ (ji43) then (if (ji43) < (l0.length : Int) then (if ((rd_T65 l0 (ji43)).f1).toList = ([] : List UInt8) then (if ((rd_T65 l0 (ji43)).f0) = ((rd_T65 l0 x28_2).f0) then (some false) else (impl_DocOk.l0 kj33 l0 (wrap64 (x3_2 + t399)) x4_15 l0 (l0.length : Int) (wrap64 (x28_2 + 1)))) else (impl_DocOk.l0 kj33 l0 (wrap64 (x3_2 + t399)) x4_15 l0 (l0.length : Int) (wrap64 (x28_2 + 1)))) else (none)) else (none)) = some r := by first | (rw [hji43] at H; exact H) | (simp only [hji43] at H ⊢; exact H)
     have hji43w : (IntKind.i64.wrap (x28_2 - 1)) = ji43 := (i64_w _).trans hji43
     by_cases c44 : 0 ≤ (ji43)
     rotate_left
     ·rw [if_neg c44] at H
      exact absurd H dq17
     rw [if_pos c44] at H
     have c44b0 := decide_eq_true c44
     clear c44
     by_cases c45 : (ji43) < (l0.length : Int)
     rotate_left
     ·rw [if_neg c45] at H
      exact absurd H dq17
     rw [if_pos c45] at H
     have c45b0 := decide_eq_true c45
     clear c45
     by_cases c46 : ((rd_T65 l0 (ji43)).f1).toList = ([] : List UInt8)
     rotate_left
     ·rw [if_neg c46] at H
      have c46b0 := beq_eq_false_iff_ne.mpr c46
      have c46b1 := bne_iff_ne.mpr c46
      have H' := Aside0.mk H
      clear H
      obtain ⟨⟨hcz50_0, hcz50_1, hcz50_2, hcz50_3⟩, hfz50_0, hfz50_1, hfz50_2, hfz50_3⟩ := blkC4 BK397.out
      have p404 : 0 ≤ ((ji43) : Int) := of_decide_eq_true dq13
      have q404 : (ji43) < (l0.length : Int) := of_decide_eq_true dq13
      obtain ⟨ad404, A404_3, c404_3, e404, hx404_0, hx404_1, hx404_2, hx404_3, hl404_3, hi404_3⟩ := at_T65 HR0.out (ji43) p404 q404
      obtain rfl : ad396 = ad404 := (by injection e404)
      replace hx404_0 := (HB.out.cell (World.block_lt_of_cell? w _ hx404_0)).trans hx404_0
      replace hx404_1 := (HB.out.cell (World.block_lt_of_cell? w _ hx404_1)).trans hx404_1
      replace hx404_2 := (HB.out.cell (World.block_lt_of_cell? w _ hx404_2)).trans hx404_2
      replace hx404_3 := (HB.out.cell (World.block_lt_of_cell? w _ hx404_3)).trans hx404_3
      have HR404_3 := Aside0.mk hi404_3
      have HC404_3 := Aside0.mk hl404_3
      clear hi404_3 hl404_3
      replace p404 := eq_true p404
      replace q404 := eq_true q404
      go_wp2
      repeat (go_quiet (fail); try go_wp2)
      go_roundg kj33
      case measure => have := HJ1.out; have := HK2.out; have := HJ15.out; have := HJ33.out; omega
      case rel => exact ⟨((wrap64 (x3_2 + t399))), (x4_15), (wrap64 (x28_2 + 1)), dq12, dq12, H', ⟨dq87⟩, ⟨dq23⟩, ⟨dq82⟩⟩
     rw [if_pos c46] at H
     have c46b0 := beq_iff_eq.mpr c46
     have c46b1 := bne_eq_false_iff_eq.mpr c46
     clear c46
     by_cases c47 : ((rd_T65 l0 (ji43)).f0) = ((rd_T65 l0 x28_2).f0)
     ·rw [if_pos c47] at H
      have c47b0 := beq_iff_eq.mpr c47
      have c47b1 := bne_eq_false_iff_eq.mpr c47
      clear c47
      obtain rfl := Option.some.inj H
      obtain ⟨⟨hcz48_0, hcz48_1, hcz48_2, hcz48_3⟩, hfz48_0, hfz48_1, hfz48_2, hfz48_3⟩ := blkC4 BK397.out
      have p404 : 0 ≤ ((ji43) : Int) := of_decide_eq_true dq13
      have q404 : (ji43) < (l0.length : Int) := of_decide_eq_true dq13
      obtain ⟨ad404, A404_3, c404_3, e404, hx404_0, hx404_1, hx404_2, hx404_3, hl404_3, hi404_3⟩ := at_T65 HR0.out (ji43) p404 q404
      obtain rfl : ad396 = ad404 := (by injection e404)
      replace hx404_0 := (HB.out.cell (World.block_lt_of_cell? w _ hx404_0)).trans hx404_0
      replace hx404_1 := (HB.out.cell (World.block_lt_of_cell? w _ hx404_1)).trans hx404_1
      replace hx404_2 := (HB.out.cell (World.block_lt_of_cell? w _ hx404_2)).trans hx404_2
      replace hx404_3 := (HB.out.cell (World.block_lt_of_cell? w _ hx404_3)).trans hx404_3
      have HR404_3 := Aside0.mk hi404_3
      have HC404_3 := Aside0.mk hl404_3
      clear hi404_3 hl404_3
      replace p404 := eq_true p404
      replace q404 := eq_true q404
      have p405 : 0 ≤ ((ji43) : Int) := of_decide_eq_true dq13
      have q405 : (ji43) < (l0.length : Int) := of_decide_eq_true dq13
      obtain ⟨ad405, A405_3, c405_3, e405, hx405_0, hx405_1, hx405_2, hx405_3, hl405_3, hi405_3⟩ := at_T65 HR0.out (ji43) p405 q405
      obtain rfl : ad396 = ad405 := (by injection e405)
      replace hx405_0 := (HB.out.cell (World.block_lt_of_cell? w _ hx405_0)).trans hx405_0
      replace hx405_1 := (HB.out.cell (World.block_lt_of_cell? w _ hx405_1)).trans hx405_1
      replace hx405_2 := (HB.out.cell (World.block_lt_of_cell? w _ hx405_2)).trans hx405_2
      replace hx405_3 := (HB.out.cell (World.block_lt_of_cell? w _ hx405_3)).trans hx405_3
      have HR405_3 := Aside0.mk hi405_3
      have HC405_3 := Aside0.mk hl405_3
      clear hi405_3 hl405_3
      replace p405 := eq_true p405
      replace q405 := eq_true q405
      have ea_ := Option.some.inj (hx404_3.symm.trans hx405_3)
      injection ea_ with ea_ en_ ec_
      subst ea_
      subst ec_
      clear en_
      go_wp2
      repeat (go_quiet (fail); try go_wp2)
      go_ret
      exact ⟨by first | rfl | (simp [errW_none, errW_some] <;> rfl) | (simp only [← hji43]; first | rfl | (simp [errW_none, errW_some] <;> rfl)) | (simp [*, errW_none, errW_some] <;> rfl), dq82⟩
     rw [if_neg c47] at H
     have c47b0 := beq_eq_false_iff_ne.mpr c47
     have c47b1 := bne_iff_ne.mpr c47
     have H' := Aside0.mk H
     clear H
     obtain ⟨⟨hcz49_0, hcz49_1, hcz49_2, hcz49_3⟩, hfz49_0, hfz49_1, hfz49_2, hfz49_3⟩ := blkC4 BK397.out
     have p404 : 0 ≤ ((ji43) : Int) := of_decide_eq_true dq13
     have q404 : (ji43) < (l0.length : Int) := of_decide_eq_true dq13
     obtain ⟨ad404, A404_3, c404_3, e404, hx404_0, hx404_1, hx404_2, hx404_3, hl404_3, hi404_3⟩ := at_T65 HR0.out (ji43) p404 q404
     obtain rfl : ad396 = ad404 := (by injection e404)
     replace hx404_0 := (HB.out.cell (World.block_lt_of_cell? w _ hx404_0)).trans hx404_0
     replace hx404_1 := (HB.out.cell (World.block_lt_of_cell? w _ hx404_1)).trans hx404_1
     replace hx404_2 := (HB.out.cell (World.block_lt_of_cell? w _ hx404_2)).trans hx404_2
     replace hx404_3 := (HB.out.cell (World.block_lt_of_cell? w _ hx404_3)).trans hx404_3
     have HR404_3 := Aside0.mk hi404_3
     have HC404_3 := Aside0.mk hl404_3
     clear hi404_3 hl404_3
     replace p404 := eq_true p404
     replace q404 := eq_true q404
     have p405 : 0 ≤ ((ji43) : Int) := of_decide_eq_true dq13
     have q405 : (ji43) < (l0.length : Int) := of_decide_eq_true dq13
     obtain ⟨ad405, A405_3, c405_3, e405, hx405_0, hx405_1, hx405_2, hx405_3, hl405_3, hi405_3⟩ := at_T65 HR0.out (ji43) p405 q405
     obtain rfl : ad396 = ad405 := (by injection e405)
     replace hx405_0 := (HB.out.cell (World.block_lt_of_cell? w _ hx405_0)).trans hx405_0
     replace hx405_1 := (HB.out.cell (World.block_lt_of_cell? w _ hx405_1)).trans hx405_1
     replace hx405_2 := (HB.out.cell (World.block_lt_of_cell? w _ hx405_2)).trans hx405_2
     replace hx405_3 := (HB.out.cell (World.block_lt_of_cell? w _ hx405_3)).trans hx405_3
     have HR405_3 := Aside0.mk hi405_3
     have HC405_3 := Aside0.mk hl405_3
     clear hi405_3 hl405_3
     replace p405 := eq_true p405
     replace q405 := eq_true q405
     have ea_ := Option.some.inj (hx404_3.symm.trans hx405_3)
     injection ea_ with ea_ en_ ec_
     subst ea_
     subst ec_
     clear en_
     go_wp2
     repeat (go_quiet (fail); try go_wp2)
     go_roundg kj33
     case measure => have := HJ1.out; have := HK2.out; have := HJ15.out; have := HJ33.out; omega
     case rel => exact ⟨((wrap64 (x3_2 + t399))), (x4_15), (wrap64 (x28_2 + 1)), dq12, dq12, H', ⟨dq87⟩, ⟨dq23⟩, ⟨dq82⟩⟩

/-! ### impl_has: function 72 -/
def impl_has.f (k : Nat) (l0 : List (S65)) (a1 : Int) : Option (Bool) := (impl_DocOk.f k l0).bind fun t409 => (if t409 = true then ((impl_in.f a1 0 (wrap64 ((l0.length : Int) - 1))).bind fun t410 => (some t410)) else (some false))
set_option maxHeartbeats 8000000 in
set_option maxRecDepth 100000 in
theorem impl_has.calls (k : Nat) (A0 : Option Addr) (c0 : Nat) (l0 : List (S65)) (a1 : Int) (r : Bool) (w : World) (hT : Gl w) (hr0 : Kd.C k65 w A0 l0.length l0) (hc0 : l0.length ≤ c0) (h : impl_has.f k l0 a1 = some r) :
  Calls Tryz.prog 72 #[.slice A0 l0.length c0, .int .i64 a1] w fun e w' => e = .returned (.bool r) ∧ Below w.heap.size w w' := by
 have HR0 := Aside0.mk hr0
 have HC0 := Aside0.mk hc0
 clear hr0 hc0
 have HT := Aside0.mk hT
 clear hT
 have HB := Aside0.mk (Below.refl w.heap.size w)
 have H : ((impl_DocOk.f k l0).bind fun t409 => (if t409 = true then ((impl_in.f a1 0 (wrap64 ((l0.length : Int) - 1))).bind fun t410 => (some t410)) else (some false))) = some r := h
 clear h
 replace H := Option.bind_eq_some_iff.mp H
 obtain ⟨t409, A30, H⟩ := H
 replace H : (if t409 = true then ((impl_in.f a1 0 (wrap64 ((l0.length : Int) - 1))).bind fun t410 => (some t410)) else (some false)) = some r := H
 have A3 := Aside0.mk A30
 clear A30
 by_cases c4 : t409 = true
 rotate_left
 ·replace c4 := Bool.eq_false_iff.mpr c4
  subst c4
  have H1 : (some false) = some r := by rw [if_neg (show ¬ (false = true) by decide)] at H; exact H
  clear H
  have H := H1
  clear H1
  obtain rfl := Option.some.inj H
  go_enter Tryz.func72, Tryz.ntmps72
  go_wp2_with (first | ((with_reducible refine gate_callee (f := 65) rfl ?_); refine goesL_ (some 6) rfl rfl Tryz.func65 dq15 rfl #[.slice A0 l0.length c0] rfl dq14 ?_; (with_reducible refine (impl_DocOk.calls k _ _ l0 false _ ?side3 ?side1 ?side2 A3.out).mono ?_); (case side1 => exact dq3); (case side2 => exact HC0.out); (case side3 => exact dq4); rintro e w7 ⟨rfl, hb⟩; refine ⟨_, rfl, ?_⟩; have n0_ := Aside0.mk (below_step dq9 hb); clear HB; have HB := n0_; clear n0_; (try clear hb); (try clear hb2); (try clear hk); (try clear hi)))
  go_ret
  exact ⟨dq11, dq9⟩
 subst c4
 have H1 : ((impl_in.f a1 0 (wrap64 ((l0.length : Int) - 1))).bind fun t410 => (some t410)) = some r := by rw [if_pos rfl] at H; exact H
 clear H
 have H := H1
 clear H1
 replace H := Option.bind_eq_some_iff.mp H
 obtain ⟨t410, A50, H⟩ := H
 replace H : (some t410) = some r := H
 have A5 := Aside0.mk A50
 clear A50
 obtain rfl := Option.some.inj H
 go_enter Tryz.func72, Tryz.ntmps72
 go_wp2_with (first | ((with_reducible refine gate_callee (f := 65) rfl ?_); refine goesL_ (some 6) rfl rfl Tryz.func65 dq15 rfl #[.slice A0 l0.length c0] rfl dq14 ?_; (with_reducible refine (impl_DocOk.calls k _ _ l0 true _ ?side3 ?side1 ?side2 A3.out).mono ?_); (case side1 => exact dq3); (case side2 => exact HC0.out); (case side3 => exact dq4); rintro e w6 ⟨rfl, hb⟩; refine ⟨_, rfl, ?_⟩; have n0_ := Aside0.mk (below_step dq9 hb); clear HB; have HB := n0_; clear n0_; (try clear hb); (try clear hb2); (try clear hk); (try clear hi)) | (go_at_call 99; (with_reducible refine (impl_in.calls a1 0 (wrap64 ((l0.length : Int) - 1)) t410 _ A5.out).mono ?_); rintro e w' ⟨rfl, ⟨nd, rfl⟩⟩))
 go_ret
 exact ⟨dq11, dq9⟩

theorem bne_nil_56 (l : List UInt8) : (l != ([] : List UInt8)) = !l.isEmpty := by cases l <;> rfl
theorem beq_nil_56 (l : List UInt8) : (l == ([] : List UInt8)) = l.isEmpty := by cases l <;> rfl
/-! ### impl_isElement: function 51 -/
def impl_isElement.f (k : Nat) (l0 : List (S65)) (a1 : Int) : Option (Bool) := (impl_has.f k l0 a1).bind fun t411 => (if t411 = true then (if 0 ≤ a1 then (if a1 < (l0.length : Int) then (some (((rd_T65 l0 a1).f1).toList != ([] : List UInt8))) else (none)) else (none)) else (some false))
set_option maxHeartbeats 8000000 in
set_option maxRecDepth 100000 in
theorem impl_isElement.calls (k : Nat) (A0 : Option Addr) (c0 : Nat) (l0 : List (S65)) (a1 : Int) (r : Bool) (w : World) (hT : Gl w) (hr0 : Kd.C k65 w A0 l0.length l0) (hc0 : l0.length ≤ c0) (h : impl_isElement.f k l0 a1 = some r) :
  Calls Tryz.prog 51 #[.slice A0 l0.length c0, .int .i64 a1] w fun e w' => e = .returned (.bool r) ∧ Below w.heap.size w w' := by
 have HR0 := Aside0.mk hr0
 have HC0 := Aside0.mk hc0
 clear hr0 hc0
 have HT := Aside0.mk hT
 clear hT
 have HB := Aside0.mk (Below.refl w.heap.size w)
 have H : ((impl_has.f k l0 a1).bind fun t411 => (if t411 = true then (if 0 ≤ a1 then (if a1 < (l0.length : Int) then (some (((rd_T65 l0 a1).f1).toList != ([] : List UInt8))) else (none)) else (none)) else (some false))) = some r := h
 clear h
 replace H := Option.bind_eq_some_iff.mp H
 obtain ⟨t411, A30, H⟩ := H
 replace H : (if t411 = true then (if 0 ≤ a1 then (if a1 < (l0.length : Int) then (some (((rd_T65 l0 a1).f1).toList != ([] : List UInt8))) else (none)) else (none)) else (some false)) = some r := H
 have A3 := Aside0.mk A30
 clear A30
 by_cases c4 : t411 = true
 rotate_left
 ·replace c4 := Bool.eq_false_iff.mpr c4
  subst c4
  have H1 : (some false) = some r := by rw [if_neg (show ¬ (false = true) by decide)] at H; exact H
  clear H
  have H := H1
  clear H1
  obtain rfl := Option.some.inj H
  go_enter Tryz.func51, Tryz.ntmps51
  go_wp2_with (first | ((with_reducible refine gate_callee (f := 72) rfl ?_); refine goesL_ (some 7) rfl rfl Tryz.func72 dq15 rfl #[.slice A0 l0.length c0, .int .i64 a1] rfl dq14 ?_; (with_reducible refine (impl_has.calls k _ _ l0 a1 false _ ?side3 ?side1 ?side2 A3.out).mono ?_); (case side1 => exact dq3); (case side2 => exact HC0.out); (case side3 => exact dq4); rintro e w8 ⟨rfl, hb⟩; refine ⟨_, rfl, ?_⟩; have n0_ := Aside0.mk (below_step dq9 hb); clear HB; have HB := n0_; clear n0_; (try clear hb); (try clear hb2); (try clear hk); (try clear hi)))
  go_ret
  exact ⟨dq88, dq9⟩
 subst c4
 have H1 : (if 0 ≤ a1 then (if a1 < (l0.length : Int) then (some (((rd_T65 l0 a1).f1).toList != ([] : List UInt8))) else (none)) else (none)) = some r := by rw [if_pos rfl] at H; exact H
 clear H
 have H := H1
 clear H1
 by_cases c5 : 0 ≤ a1
 rotate_left
 ·rw [if_neg c5] at H
  exact absurd H dq17
 rw [if_pos c5] at H
 have c5b0 := decide_eq_true c5
 clear c5
 by_cases c6 : a1 < (l0.length : Int)
 rotate_left
 ·rw [if_neg c6] at H
  exact absurd H dq17
 rw [if_pos c6] at H
 have c6b0 := decide_eq_true c6
 clear c6
 obtain rfl := Option.some.inj H
 go_enter Tryz.func51, Tryz.ntmps51
 go_wp2_with (first | ((with_reducible refine gate_callee (f := 72) rfl ?_); refine goesL_ (some 7) rfl rfl Tryz.func72 dq15 rfl #[.slice A0 l0.length c0, .int .i64 a1] rfl dq14 ?_; (with_reducible refine (impl_has.calls k _ _ l0 a1 true _ ?side3 ?side1 ?side2 A3.out).mono ?_); (case side1 => exact dq3); (case side2 => exact HC0.out); (case side3 => exact dq4); rintro e w7 ⟨rfl, hb⟩; refine ⟨_, rfl, ?_⟩; have n0_ := Aside0.mk (below_step dq9 hb); clear HB; have HB := n0_; clear n0_; (try clear hb); (try clear hb2); (try clear hk); (try clear hi); have p412 : 0 ≤ (a1 : Int) := of_decide_eq_true dq13; have q412 : a1 < (l0.length : Int) := of_decide_eq_true dq13; obtain ⟨ad412, A412_3, c412_3, e412, hx412_0, hx412_1, hx412_2, hx412_3, hl412_3, hi412_3⟩ := at_T65 HR0.out a1 p412 q412; cases e412; replace hx412_0 := (HB.out.cell (World.block_lt_of_cell? w _ hx412_0)).trans hx412_0; replace hx412_1 := (HB.out.cell (World.block_lt_of_cell? w _ hx412_1)).trans hx412_1; replace hx412_2 := (HB.out.cell (World.block_lt_of_cell? w _ hx412_2)).trans hx412_2; replace hx412_3 := (HB.out.cell (World.block_lt_of_cell? w _ hx412_3)).trans hx412_3; have HR412_3 := Aside0.mk hi412_3; have HC412_3 := Aside0.mk hl412_3; clear hi412_3 hl412_3; replace p412 := eq_true p412; replace q412 := eq_true q412))
 go_ret
 exact ⟨dq88, dq9⟩

end Go.Proofs.YtpmjpbaeecnpiaaGreatDoor.L
