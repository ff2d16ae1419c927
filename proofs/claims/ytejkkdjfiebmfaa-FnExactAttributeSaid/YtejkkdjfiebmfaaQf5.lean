/- Words and contracts for the row RowFnExactAttribute: what the Go functions answer that it calls; printed by programs of the kit and of this session, and merged. -/
import Derived.Test.YtejkkdjfiebmfaaQf4
namespace Go.Proofs.Ytejkkdjfiebmfaa.L
open Go.RowKit Go.Proofs.YtejkkdjfiebmfaaW.PrintWords Go.Proofs.YtejkkdjfiebmfaaW.PrintLast Go.Proofs.YtejkkdjfiebmfaaW.PrintMore
attribute [local go_sem] max2_int min2_int max_two min_two max_three min_three max_four min_four
set_option linter.unusedVariables false
set_option linter.unusedSimpArgs false

/-! ### spec_Clear: function 22 -/
mutual
def spec_Clear.j0 : Nat → List (S49) → Bool → Option (Bool)
 | 0, _, _ => none
 | k + 1, x0, x13 => if x13 = true then (some false) else (spec_Clear.l0 k x0 0)
def spec_Clear.l0 : Nat → List (S49) → Int → Option (Bool)
 | 0, _, _ => none
 | k + 1, x0, x3 => if x3 < (x0.length : Int) then ((spec_l8Pos.f x0 x3).bind fun t432 => (if t432 = true then ((spec_l8Follow.f k x0 x3).bind fun t433 => ((spec_l8Apart.f k x0 t433).bind fun t436 => (if t436 = true then (spec_Clear.l0 k x0 (wrap64 (x3 + 1))) else (some false)))) else (spec_Clear.l0 k x0 (wrap64 (x3 + 1))))) else (some true)
end
def spec_Clear.f (k : Nat) (l0 : List (S49)) : Option (Bool) := (spec_ParticleOk.f k l0).bind fun t427 => (if t427 = true then ((spec_FirstOf.f k l0).bind fun t428 => ((spec_l8Apart.f k l0 t428).bind fun t431 => (spec_Clear.j0 k l0 (!t431)))) else (spec_Clear.j0 k l0 true))
set_option maxHeartbeats 8000000 in
set_option maxRecDepth 100000 in
theorem spec_Clear.calls (k : Nat) (A0 : Option Addr) (c0 : Nat) (l0 : List (S49)) (r : Bool) (w : World) (hr0 : Kd.C k49 w A0 l0.length l0) (hc0 : l0.length ≤ c0) (h : spec_Clear.f k l0 = some r) :
  Calls Try.prog 22 #[.slice A0 l0.length c0] w fun e w' => e = .returned (.bool r) ∧ Below w.heap.size w w' := by
 have HR0 := Aside0.mk hr0
 have HC0 := Aside0.mk hc0
 clear hr0 hc0
 have HB := Aside0.mk (Below.refl w.heap.size w)
 have H : ((spec_ParticleOk.f k l0).bind fun t427 => (if t427 = true then ((spec_FirstOf.f k l0).bind fun t428 => ((spec_l8Apart.f k l0 t428).bind fun t431 => (spec_Clear.j0 k l0 (!t431)))) else (spec_Clear.j0 k l0 true))) = some r := h
 clear h
 have HC2 := Aside0.mk H
 clear H
 go_enter Try.func22, Try.ntmps22
 go_upto_region 1 with (fail)
 go_cut [13] (fun v13 wc => ∃ (kq : Nat) (x13_1 : Bool), v13 = .bool x13_1 ∧ Aside0 (spec_Clear.j0 kq l0 x13_1 = some r) ∧ Aside0 (kq ≤ k) ∧ Aside0 (Below w.heap.size w wc))
 case first =>
  have H := HC2.out
  clear HC2
  replace H := Option.bind_eq_some_iff.mp H
  obtain ⟨t427, A30, H⟩ := H
  replace H : (if t427 = true then ((spec_FirstOf.f k l0).bind fun t428 => ((spec_l8Apart.f k l0 t428).bind fun t431 => (spec_Clear.j0 k l0 (!t431)))) else (spec_Clear.j0 k l0 true)) = some r := H
  have A3 := Aside0.mk A30
  clear A30
  by_cases c4 : t427 = true
  rotate_left
  ·replace c4 := Bool.eq_false_iff.mpr c4
   subst c4
   have H1 : (spec_Clear.j0 k l0 true) = some r := by rw [if_neg (show ¬ (false = true) by decide)] at H; exact H
   clear H
   have H := H1
   clear H1
   have H' := Aside0.mk H
   clear H
   go_wp2_with (first | ((with_reducible refine gate_callee (f := 33) rfl ?_); refine goesL_ (some 5) rfl rfl Try.func33 dq21 rfl #[.slice A0 l0.length c0] rfl dq20 ?_; (with_reducible refine (spec_ParticleOk.calls k _ _ l0 false _ ?side1 ?side2 A3.out).mono ?_); (case side1 => exact dq5); (case side2 => exact dq4); rintro e w11 ⟨rfl, hb⟩; refine ⟨_, rfl, ?_⟩; have n0_ := Aside0.mk (below_step dq17 hb); clear HB; have HB := n0_; clear n0_; (try clear hb); (try clear hb2); (try clear hk); (try clear hi)))
   go_meet
   case rel => exact ⟨_, (true), dq15, H', ⟨dq45⟩, ⟨dq17⟩⟩
  subst c4
  have H1 : ((spec_FirstOf.f k l0).bind fun t428 => ((spec_l8Apart.f k l0 t428).bind fun t431 => (spec_Clear.j0 k l0 (!t431)))) = some r := by rw [if_pos rfl] at H; exact H
  clear H
  have H := H1
  clear H1
  replace H := Option.bind_eq_some_iff.mp H
  obtain ⟨t428, A50, H⟩ := H
  replace H : ((spec_l8Apart.f k l0 t428).bind fun t431 => (spec_Clear.j0 k l0 (!t431))) = some r := H
  have A5 := Aside0.mk A50
  clear A50
  replace H := Option.bind_eq_some_iff.mp H
  obtain ⟨t431, A60, H⟩ := H
  replace H : (spec_Clear.j0 k l0 (!t431)) = some r := H
  have A6 := Aside0.mk A60
  clear A60
  have H' := Aside0.mk H
  clear H
  go_wp2_with (first | ((with_reducible refine gate_callee (f := 33) rfl ?_); refine goesL_ (some 5) rfl rfl Try.func33 dq21 rfl #[.slice A0 l0.length c0] rfl dq20 ?_; (with_reducible refine (spec_ParticleOk.calls k _ _ l0 true _ ?side1 ?side2 A3.out).mono ?_); (case side1 => exact dq5); (case side2 => exact dq4); rintro e w7 ⟨rfl, hb⟩; refine ⟨_, rfl, ?_⟩; have n0_ := Aside0.mk (below_step dq17 hb); clear HB; have HB := n0_; clear n0_; (try clear hb); (try clear hb2); (try clear hk); (try clear hi)) | (go_at_call 10; (with_reducible refine (spec_FirstOf.calls k _ _ l0 t428 _ ?side1 ?side2 A5.out).mono ?_); (case side1 => exact dq5); (case side2 => exact dq4); rintro e w8 ⟨v429, rfl, ho0, hb⟩; have n0_ := Aside0.mk (Kd.R_lower ho0 (below_size dq17)); have n1_ := Aside0.mk (below_step dq17 hb); clear HB; have HO430 := n0_; have HB := n1_; clear n0_ n1_; (try clear hb); (try clear hb2); (try clear hk); (try clear hi); (try clear ho0); obtain ⟨Ao9, co9, eo9⟩ := Kd.R_slice HO430.out; subst eo9) | (go_at_call 49; (with_reducible refine (spec_l8Apart.calls k _ _ l0 _ _ t428 t431 _ ?side1 ?side2 ?side3 ?side4 A6.out).mono ?_); (case side1 => exact dq5); (case side2 => exact dq4); (case side3 => repeat (first | exact (Kd.R_reads' HO430.out).2.2 | (with_reducible refine Kd.C_alloc ?_ _) | (with_reducible refine Kd.C_drewN ?_ _) | (with_reducible refine Kd.C_drew ?_))); (case side4 => exact (Kd.R_reads' HO430.out).2.1); rintro e w10 ⟨rfl, hb⟩; have n0_ := Aside0.mk (Kd.R_below (by (with_reducible repeat (first | apply Kd.R_alloc | apply Kd.R_drewN | apply Kd.R_drew)); exact HO430.out) hb); have n1_ := Aside0.mk (below_step dq17 hb); clear HO430; clear HB; have HO430 := n0_; have HB := n1_; clear n0_ n1_; (try clear hb); (try clear hb2); (try clear hk); (try clear hi)))
  go_meet
  case rel => exact ⟨_, (!t431), dq15, H', ⟨dq45⟩, ⟨dq17⟩⟩
 clear HC2
 try clear c2
 try clear p2
 try clear c3
 try clear c4
 obtain ⟨kq, x13_1, rfl, HA, HJ1, HB⟩ := hcut
 cases kq with
 | zero => exact absurd HA.out (by simp [spec_Clear.j0])
 | succ kj1 =>
  have H := HA.out
  clear HA
  simp only [spec_Clear.j0] at H
  by_cases c12 : x13_1 = true
  ·subst c12
   have H1 : (some false) = some r := by rw [if_pos rfl] at H; exact H
   clear H
   have H := H1
   clear H1
   obtain rfl := Option.some.inj H
   go_wp2
   go_ret
   exact ⟨dq19, dq17⟩
  replace c12 := Bool.eq_false_iff.mpr c12
  subst c12
  have H1 : (spec_Clear.l0 kj1 l0 0) = some r := by rw [if_neg (show ¬ (false = true) by decide)] at H; exact H
  clear H
  have H := H1
  clear H1
  have H' := Aside0.mk H
  clear H
  go_wp2
  go_loopg [3] kj1 (fun kq v3 w' => ∃ (x3_2 : Int), v3 = .int .i64 x3_2 ∧ Aside0 (spec_Clear.l0 kq l0 x3_2 = some r) ∧ Aside0 (kq ≤ kj1) ∧ Aside0 (Below w.heap.size w w'))
  case atStart => exact ⟨(0), dq15, H', ⟨Nat.le_refl _⟩, ⟨dq17⟩⟩
  clear H'
  try clear c1
  try clear c2
  try clear p2
  try clear c3
  try clear c4
  try clear c12
  try clear p2
  obtain ⟨x3_2, rfl, HA, HK2, HB⟩ := hrel
  cases gk with
  | zero => exact absurd HA.out (by simp [spec_Clear.l0])
  | succ k2 =>
   have H := HA.out
   clear HA
   simp only [spec_Clear.l0] at H
   by_cases c13 : x3_2 < (l0.length : Int)
   rotate_left
   ·rw [if_neg c13] at H
    have c13b0 := decide_eq_false c13
    clear c13
    obtain rfl := Option.some.inj H
    go_wp2
    go_ret
    exact ⟨dq19, dq17⟩
   rw [if_pos c13] at H
   have c13b0 := decide_eq_true c13
   clear c13
   replace H := Option.bind_eq_some_iff.mp H
   obtain ⟨t432, A140, H⟩ := H
   replace H : (if t432 = true then ((spec_l8Follow.f k2 l0 x3_2).bind fun t433 => ((spec_l8Apart.f k2 l0 t433).bind fun t436 => (if t436 = true then (spec_Clear.l0 k2 l0 (wrap64 (x3_2 + 1))) else (some false)))) else (spec_Clear.l0 k2 l0 (wrap64 (x3_2 + 1)))) = some r := H
   have A14 := Aside0.mk A140
   clear A140
   by_cases c15 : t432 = true
   rotate_left
   ·replace c15 := Bool.eq_false_iff.mpr c15
    subst c15
    have H1 : (spec_Clear.l0 k2 l0 (wrap64 (x3_2 + 1))) = some r := by rw [if_neg (show ¬ (false = true) by decide)] at H; exact H
    clear H
    have H := H1
    clear H1
    have H' := Aside0.mk H
    clear H
    go_wp2_with (first | ((with_reducible refine gate_callee (f := 45) rfl ?_); refine goesL_ (some 22) rfl rfl Try.func45 dq21 rfl #[.slice A0 l0.length c0, .int .i64 x3_2] rfl dq20 ?_; (with_reducible refine (spec_l8Pos.calls _ _ l0 x3_2 false _ ?side1 ?side2 A14.out).mono ?_); (case side1 => exact dq5); (case side2 => exact dq4); rintro e w' ⟨rfl, ⟨nd, rfl⟩⟩; refine ⟨_, rfl, ?_⟩))
    go_roundg k2
    case measure => have := HJ1.out; have := HK2.out; omega
    case rel => exact ⟨(wrap64 (x3_2 + 1)), dq15, H', ⟨by have := HJ1.out; have := HK2.out; omega⟩, ⟨dq17⟩⟩
   subst c15
   have H1 : ((spec_l8Follow.f k2 l0 x3_2).bind fun t433 => ((spec_l8Apart.f k2 l0 t433).bind fun t436 => (if t436 = true then (spec_Clear.l0 k2 l0 (wrap64 (x3_2 + 1))) else (some false)))) = some r := by rw [if_pos rfl] at H; exact H
   clear H
   have H := H1
   clear H1
   replace H := Option.bind_eq_some_iff.mp H
   obtain ⟨t433, A160, H⟩ := H
   replace H : ((spec_l8Apart.f k2 l0 t433).bind fun t436 => (if t436 = true then (spec_Clear.l0 k2 l0 (wrap64 (x3_2 + 1))) else (some false))) = some r := H
   have A16 := Aside0.mk A160
   clear A160
   replace H := Option.bind_eq_some_iff.mp H
   obtain ⟨t436, A170, H⟩ := H
   replace H : (if t436 = true then (spec_Clear.l0 k2 l0 (wrap64 (x3_2 + 1))) else (some false)) = some r := H
   have A17 := Aside0.mk A170
   clear A170
   by_cases c18 : t436 = true
   rotate_left
   ·replace c18 := Bool.eq_false_iff.mpr c18
    subst c18
    have H1 : (some false) = some r := by rw [if_neg (show ¬ (false = true) by decide)] at H; exact H
    clear H
    have H := H1
    clear H1
    obtain rfl := Option.some.inj H
    go_wp2_with (first | ((with_reducible refine gate_callee (f := 45) rfl ?_); refine goesL_ (some 22) rfl rfl Try.func45 dq21 rfl #[.slice A0 l0.length c0, .int .i64 x3_2] rfl dq20 ?_; (with_reducible refine (spec_l8Pos.calls _ _ l0 x3_2 true _ ?side1 ?side2 A14.out).mono ?_); (case side1 => exact dq5); (case side2 => exact dq4); rintro e w' ⟨rfl, ⟨nd, rfl⟩⟩; refine ⟨_, rfl, ?_⟩) | (go_at_call 46; (with_reducible refine (spec_l8Follow.calls k2 _ _ l0 x3_2 t433 _ ?side1 ?side2 A16.out).mono ?_); (case side1 => repeat (first | exact (Kd.C_below HR0.out dq17) | (with_reducible refine Kd.C_alloc ?_ _) | (with_reducible refine Kd.C_drewN ?_ _) | (with_reducible refine Kd.C_drew ?_))); (case side2 => exact dq4); rintro e w22 ⟨v434, rfl, ho0, hb⟩; have n0_ := Aside0.mk (Kd.R_lower ho0 (below_size dq17)); have n1_ := Aside0.mk (below_step dq17 hb); clear HB; have HO435 := n0_; have HB := n1_; clear n0_ n1_; (try clear hb); (try clear hb2); (try clear hk); (try clear hi); (try clear ho0); obtain ⟨Ao23, co23, eo23⟩ := Kd.R_slice HO435.out; subst eo23) | (go_at_call 49; (with_reducible refine (spec_l8Apart.calls k2 _ _ l0 _ _ t433 false _ ?side1 ?side2 ?side3 ?side4 A17.out).mono ?_); (case side1 => exact dq5); (case side2 => exact dq4); (case side3 => repeat (first | exact (Kd.R_reads' HO435.out).2.2 | (with_reducible refine Kd.C_alloc ?_ _) | (with_reducible refine Kd.C_drewN ?_ _) | (with_reducible refine Kd.C_drew ?_))); (case side4 => exact (Kd.R_reads' HO435.out).2.1); rintro e w24 ⟨rfl, hb⟩; have n0_ := Aside0.mk (Kd.R_below (by (with_reducible repeat (first | apply Kd.R_alloc | apply Kd.R_drewN | apply Kd.R_drew)); exact HO435.out) hb); have n1_ := Aside0.mk (below_step dq17 hb); clear HO435; clear HB; have HO435 := n0_; have HB := n1_; clear n0_ n1_; (try clear hb); (try clear hb2); (try clear hk); (try clear hi)))
    go_ret
    exact ⟨dq19, dq17⟩
   subst c18
   have H1 : (spec_Clear.l0 k2 l0 (wrap64 (x3_2 + 1))) = some r := by rw [if_pos rfl] at H; exact H
   clear H
   have H := H1
   clear H1
   have H' := Aside0.mk H
   clear H
   go_wp2_with (first | ((with_reducible refine gate_callee (f := 45) rfl ?_); refine goesL_ (some 22) rfl rfl Try.func45 dq21 rfl #[.slice A0 l0.length c0, .int .i64 x3_2] rfl dq20 ?_; (with_reducible refine (spec_l8Pos.calls _ _ l0 x3_2 true _ ?side1 ?side2 A14.out).mono ?_); (case side1 => exact dq5); (case side2 => exact dq4); rintro e w' ⟨rfl, ⟨nd, rfl⟩⟩; refine ⟨_, rfl, ?_⟩) | (go_at_call 46; (with_reducible refine (spec_l8Follow.calls k2 _ _ l0 x3_2 t433 _ ?side1 ?side2 A16.out).mono ?_); (case side1 => repeat (first | exact (Kd.C_below HR0.out dq17) | (with_reducible refine Kd.C_alloc ?_ _) | (with_reducible refine Kd.C_drewN ?_ _) | (with_reducible refine Kd.C_drew ?_))); (case side2 => exact dq4); rintro e w19 ⟨v434, rfl, ho0, hb⟩; have n0_ := Aside0.mk (Kd.R_lower ho0 (below_size dq17)); have n1_ := Aside0.mk (below_step dq17 hb); clear HB; have HO435 := n0_; have HB := n1_; clear n0_ n1_; (try clear hb); (try clear hb2); (try clear hk); (try clear hi); (try clear ho0); obtain ⟨Ao20, co20, eo20⟩ := Kd.R_slice HO435.out; subst eo20) | (go_at_call 49; (with_reducible refine (spec_l8Apart.calls k2 _ _ l0 _ _ t433 true _ ?side1 ?side2 ?side3 ?side4 A17.out).mono ?_); (case side1 => exact dq5); (case side2 => exact dq4); (case side3 => repeat (first | exact (Kd.R_reads' HO435.out).2.2 | (with_reducible refine Kd.C_alloc ?_ _) | (with_reducible refine Kd.C_drewN ?_ _) | (with_reducible refine Kd.C_drew ?_))); (case side4 => exact (Kd.R_reads' HO435.out).2.1); rintro e w21 ⟨rfl, hb⟩; have n0_ := Aside0.mk (Kd.R_below (by (with_reducible repeat (first | apply Kd.R_alloc | apply Kd.R_drewN | apply Kd.R_drew)); exact HO435.out) hb); have n1_ := Aside0.mk (below_step dq17 hb); clear HO435; clear HB; have HO435 := n0_; have HB := n1_; clear n0_ n1_; (try clear hb); (try clear hb2); (try clear hk); (try clear hi)))
   go_roundg k2
   case measure => have := HJ1.out; have := HK2.out; omega
   case rel => exact ⟨(wrap64 (x3_2 + 1)), dq15, H', ⟨by have := HJ1.out; have := HK2.out; omega⟩, ⟨dq17⟩⟩

/-! ### spec_Nullable: function 51 -/
def spec_Nullable.f (k : Nat) (l0 : List (S49)) : Option (Bool) := (spec_ParticleOk.f k l0).bind fun t453 => (if t453 = true then ((spec_l8Null.f k l0 (wrap64 ((l0.length : Int) - 1))).bind fun t454 => (some t454)) else (some false))
set_option maxHeartbeats 8000000 in
set_option maxRecDepth 100000 in
theorem spec_Nullable.calls (k : Nat) (A0 : Option Addr) (c0 : Nat) (l0 : List (S49)) (r : Bool) (w : World) (hr0 : Kd.C k49 w A0 l0.length l0) (hc0 : l0.length ≤ c0) (h : spec_Nullable.f k l0 = some r) :
  Calls Try.prog 51 #[.slice A0 l0.length c0] w fun e w' => e = .returned (.bool r) ∧ Below w.heap.size w w' := by
 have HR0 := Aside0.mk hr0
 have HC0 := Aside0.mk hc0
 clear hr0 hc0
 have HB := Aside0.mk (Below.refl w.heap.size w)
 have H : ((spec_ParticleOk.f k l0).bind fun t453 => (if t453 = true then ((spec_l8Null.f k l0 (wrap64 ((l0.length : Int) - 1))).bind fun t454 => (some t454)) else (some false))) = some r := h
 clear h
 replace H := Option.bind_eq_some_iff.mp H
 obtain ⟨t453, A20, H⟩ := H
 replace H : (if t453 = true then ((spec_l8Null.f k l0 (wrap64 ((l0.length : Int) - 1))).bind fun t454 => (some t454)) else (some false)) = some r := H
 have A2 := Aside0.mk A20
 clear A20
 by_cases c3 : t453 = true
 rotate_left
 ·replace c3 := Bool.eq_false_iff.mpr c3
  subst c3
  have H1 : (some false) = some r := by rw [if_neg (show ¬ (false = true) by decide)] at H; exact H
  clear H
  have H := H1
  clear H1
  obtain rfl := Option.some.inj H
  go_enter Try.func51, Try.ntmps51
  go_wp2_with (first | ((with_reducible refine gate_callee (f := 33) rfl ?_); refine goesL_ (some 4) rfl rfl Try.func33 dq21 rfl #[.slice A0 l0.length c0] rfl dq20 ?_; (with_reducible refine (spec_ParticleOk.calls k _ _ l0 false _ ?side1 ?side2 A2.out).mono ?_); (case side1 => exact dq3); (case side2 => exact dq4); rintro e w7 ⟨rfl, hb⟩; refine ⟨_, rfl, ?_⟩; have n0_ := Aside0.mk (below_step dq17 hb); clear HB; have HB := n0_; clear n0_; (try clear hb); (try clear hb2); (try clear hk); (try clear hi)))
  go_ret
  exact ⟨dq19, dq17⟩
 subst c3
 have H1 : ((spec_l8Null.f k l0 (wrap64 ((l0.length : Int) - 1))).bind fun t454 => (some t454)) = some r := by rw [if_pos rfl] at H; exact H
 clear H
 have H := H1
 clear H1
 replace H := Option.bind_eq_some_iff.mp H
 obtain ⟨t454, A40, H⟩ := H
 replace H : (some t454) = some r := H
 have A4 := Aside0.mk A40
 clear A40
 obtain rfl := Option.some.inj H
 go_enter Try.func51, Try.ntmps51
 go_wp2_with (first | ((with_reducible refine gate_callee (f := 33) rfl ?_); refine goesL_ (some 4) rfl rfl Try.func33 dq21 rfl #[.slice A0 l0.length c0] rfl dq20 ?_; (with_reducible refine (spec_ParticleOk.calls k _ _ l0 true _ ?side1 ?side2 A2.out).mono ?_); (case side1 => exact dq3); (case side2 => exact dq4); rintro e w5 ⟨rfl, hb⟩; refine ⟨_, rfl, ?_⟩; have n0_ := Aside0.mk (below_step dq17 hb); clear HB; have HB := n0_; clear n0_; (try clear hb); (try clear hb2); (try clear hk); (try clear hi)) | (go_at_call 62; (with_reducible refine (spec_l8Null.calls k _ _ l0 (wrap64 ((l0.length : Int) - 1)) t454 _ ?side1 ?side2 A4.out).mono ?_); (case side1 => exact dq5); (case side2 => exact dq4); rintro e w6 ⟨rfl, hb⟩; have n0_ := Aside0.mk (below_step dq17 hb); clear HB; have HB := n0_; clear n0_; (try clear hb); (try clear hb2); (try clear hk); (try clear hi)))
 go_ret
 exact ⟨dq19, dq17⟩

/-! ### spec_Attribute: function 25 -/
mutual
def spec_Attribute.j0 : Nat → List (S49) → List ByteArray → Bool → Option (List Int × Bool)
 | 0, _, _, _ => none
 | k + 1, x0, x1, x18 => if x18 = true then (some (([] : List Int), false)) else ((spec_FirstOf.f k x0).bind fun t459 => (spec_Attribute.l0 k x0 x1 (([] : List Int)) t459 0))
def spec_Attribute.l0 : Nat → List (S49) → List ByteArray → List Int → List Int → Int → Option (List Int × Bool)
 | 0, _, _, _, _, _ => none
 | k + 1, x0, x1, x6, x7, x8 => if x8 < (x1.length : Int) then (spec_Attribute.l1 k x0 x1 x6 x7 x8 (-1) 0) else (if (x1.length : Int) = 0 then ((spec_Nullable.f k x0).bind fun t475 => (if t475 = true then (if (x1.length : Int) > 0 then ((spec_LastOf.f k x0).bind fun t476 => (if 0 ≤ (wrap64 ((x6.length : Int) - 1)) then (if (wrap64 ((x6.length : Int) - 1)) < (x6.length : Int) then ((spec_l8Has.f k t476 (rd x6 (wrap64 ((x6.length : Int) - 1)))).bind fun t480 => (if t480 = true then (some (x6, true)) else (some (([] : List Int), false)))) else (none)) else (none))) else (some (x6, true))) else (some (([] : List Int), false)))) else (if (x1.length : Int) > 0 then ((spec_LastOf.f k x0).bind fun t481 => (if 0 ≤ (wrap64 ((x6.length : Int) - 1)) then (if (wrap64 ((x6.length : Int) - 1)) < (x6.length : Int) then ((spec_l8Has.f k t481 (rd x6 (wrap64 ((x6.length : Int) - 1)))).bind fun t485 => (if t485 = true then (some (x6, true)) else (some (([] : List Int), false)))) else (none)) else (none))) else (some (x6, true))))
def spec_Attribute.l1 : Nat → List (S49) → List ByteArray → List Int → List Int → Int → Int → Int → Option (List Int × Bool)
 | 0, _, _, _, _, _, _, _ => none
 | k + 1, x0, x1, x6, x7, x8, x9, x10 => if x10 < (x7.length : Int) then (if 0 ≤ x10 then (if 0 ≤ (rd x7 x10) then (if (rd x7 x10) < (x0.length : Int) then (if ((rd_T49 x0 (rd x7 x10)).f0) = 4 then (spec_Attribute.l1 k x0 x1 x6 x7 x8 (rd x7 x10) (wrap64 (x10 + 1))) else (if 0 ≤ x8 then (if x8 < (x1.length : Int) then (if ((rd_T49 x0 (rd x7 x10)).f1).toList = (rdOf ByteArray.empty x1 x8).toList then (spec_Attribute.l1 k x0 x1 x6 x7 x8 (rd x7 x10) (wrap64 (x10 + 1))) else (spec_Attribute.l1 k x0 x1 x6 x7 x8 x9 (wrap64 (x10 + 1)))) else (none)) else (none))) else (none)) else (none)) else (none)) else (if x9 < 0 then (some (([] : List Int), false)) else (if x6.length < 17592186044416 then ((spec_l8Follow.f k x0 x9).bind fun t472 => (spec_Attribute.l0 k x0 x1 (x6 ++ [x9]) t472 (wrap64 (x8 + 1)))) else (none)))
end
def spec_Attribute.f (k : Nat) (l0 : List (S49)) (l1 : List ByteArray) : Option (List Int × Bool) := (spec_Clear.f k l0).bind fun t455 => (if t455 = true then (spec_Attribute.j0 k l0 l1 (decide ((l1.length : Int) > 200))) else (spec_Attribute.j0 k l0 l1 true))
def spec_Attribute.T12 : Bool × List (List Nat × List Nat) := (true, [([], []), ([], []), ([], []), ([1, 2], [1, 2]), ([3], [3]), ([0, 4], [0, 4]), ([5], [5]), ([6], [6]), ([7], [7]), ([8], [8]), ([9], [9]), ([9], [9]), ([9], [9]), ([11, 12, 9], [9, 11, 12]), ([13, 9], [9, 13]), ([10, 14, 9], [9, 10, 14]), ([15, 9], [9, 15]), ([16, 9], [9, 16]), ([9], [9]), ([9], [9]), ([18, 19, 9], [9, 18, 19]), ([20, 9], [9, 20]), ([17, 21, 9], [9, 17, 21]), ([9, 22], [9, 22])])
def spec_Attribute.B12 : List Nat := [0, 0, 0, 6, 14, 31, 63, 127, 255, 511, 1023, 1023, 1023, 7167, 15359, 32767, 65535, 131071, 1023, 1023, 787455, 1836031, 4194303, 8388607]
theorem spec_Attribute.tab12 : rtab .any (opsOf Try.f25 12) = spec_Attribute.T12 := by kernel_rfl
theorem spec_Attribute.bits12 : waitsOk spec_Attribute.T12.2 spec_Attribute.B12 = true := by kernel_rfl
def spec_Attribute.T18 : Bool × List (List Nat × List Nat) := (true, [([], []), ([0], [0]), ([1], [1]), ([2], [2]), ([3], [3]), ([4, 3, 3], [3, 4]), ([5, 3], [3, 5]), ([3, 6], [3, 6]), ([7, 5], [7]), ([8], [8]), ([9, 8], [8, 9]), ([10, 8], [8, 10]), ([11, 8, 8], [8, 11]), ([12], [12]), ([13, 12, 12], [12, 13]), ([12], [12]), ([12], [12]), ([16, 12], [12, 16]), ([17, 12], [12, 17]), ([15, 18, 12], [12, 15, 18]), ([19, 12], [12, 19]), ([14, 20, 14, 12], [12, 14, 20]), ([21, 12], [12, 21]), ([12, 22, 8], [8, 12, 22]), ([8, 23], [8, 23])])
def spec_Attribute.B18 : List Nat := [0, 1, 3, 7, 15, 31, 63, 127, 255, 511, 1023, 2047, 4095, 8191, 16383, 8191, 8191, 73727, 204799, 499711, 1023999, 2097151, 4194303, 8388607, 16777215]
theorem spec_Attribute.tab18 : rtab .any (opsOf Try.f25 18) = spec_Attribute.T18 := by kernel_rfl
theorem spec_Attribute.bits18 : waitsOk spec_Attribute.T18.2 spec_Attribute.B18 = true := by kernel_rfl
set_option maxHeartbeats 8000000 in
set_option maxRecDepth 100000 in
theorem spec_Attribute.calls (k : Nat) (A0 : Option Addr) (c0 : Nat) (l0 : List (S49)) (A1 : Option Addr) (c1 : Nat) (l1 : List ByteArray) (r1 : List Int) (r2 : Bool) (w : World) (hr0 : Kd.C k49 w A0 l0.length l0) (hc0 : l0.length ≤ c0) (hr1 : Kd.C Kd.string w A1 l1.length l1) (hc1 : l1.length ≤ c1) (h : spec_Attribute.f k l0 l1 = some (r1, r2)) :
  Calls Try.prog 25 #[.slice A0 l0.length c0, .slice A1 l1.length c1] w fun e w' => ∃ v0_ : Value, e = .returned (.tuple #[v0_, .bool r2]) ∧ Kd.R (Kd.int .i64) 2 w' w.heap.size (fun _ => True) v0_ r1 ∧ Below w.heap.size w w' := by
 have HR0 := Aside0.mk hr0
 have HC0 := Aside0.mk hc0
 clear hr0 hc0
 have HR1 := Aside0.mk hr1
 have HC1 := Aside0.mk hc1
 clear hr1 hc1
 have HB := Aside0.mk (Below.refl w.heap.size w)
 have H : ((spec_Clear.f k l0).bind fun t455 => (if t455 = true then (spec_Attribute.j0 k l0 l1 (decide ((l1.length : Int) > 200))) else (spec_Attribute.j0 k l0 l1 true))) = some (r1, r2) := h
 clear h
 have HC3 := Aside0.mk H
 clear H
 go_enter Try.func25, Try.ntmps25
 go_upto_region 1 with (fail)
 go_cut [18] (fun v18 wc => ∃ (kq : Nat) (x18_2 : Bool), v18 = .bool x18_2 ∧ Aside0 (spec_Attribute.j0 kq l0 l1 x18_2 = some (r1, r2)) ∧ Aside0 (kq ≤ k) ∧ Aside0 (Below w.heap.size w wc))
 case first =>
  have H := HC3.out
  clear HC3
  replace H := Option.bind_eq_some_iff.mp H
  obtain ⟨t455, A40, H⟩ := H
  replace H : (if t455 = true then (spec_Attribute.j0 k l0 l1 (decide ((l1.length : Int) > 200))) else (spec_Attribute.j0 k l0 l1 true)) = some (r1, r2) := H
  have A4 := Aside0.mk A40
  clear A40
  by_cases c5 : t455 = true
  ·subst c5
   have H1 : (spec_Attribute.j0 k l0 l1 (decide ((l1.length : Int) > 200))) = some (r1, r2) := by rw [if_pos rfl] at H; exact H
   clear H
   have H := H1
   clear H1
   have H' := Aside0.mk H
   clear H
   go_wp2_with (first | ((with_reducible refine gate_callee (f := 22) rfl ?_); refine goesL_ (some 12) rfl rfl Try.func22 dq21 rfl #[.slice A0 l0.length c0] rfl dq20 ?_; (with_reducible refine (spec_Clear.calls k _ _ l0 true _ ?side1 ?side2 A4.out).mono ?_); (case side1 => exact dq5); (case side2 => exact dq4); rintro e w6 ⟨rfl, hb⟩; refine ⟨_, rfl, ?_⟩; have n0_ := Aside0.mk (below_step dq17 hb); clear HB; have HB := n0_; clear n0_; (try clear hb); (try clear hb2); (try clear hk); (try clear hi)))
   go_meet
   case rel => exact ⟨_, (decide ((l1.length : Int) > 200)), dq15, H', ⟨dq45⟩, ⟨dq17⟩⟩
  replace c5 := Bool.eq_false_iff.mpr c5
  subst c5
  have H1 : (spec_Attribute.j0 k l0 l1 true) = some (r1, r2) := by rw [if_neg (show ¬ (false = true) by decide)] at H; exact H
  clear H
  have H := H1
  clear H1
  have H' := Aside0.mk H
  clear H
  go_wp2_with (first | ((with_reducible refine gate_callee (f := 22) rfl ?_); refine goesL_ (some 12) rfl rfl Try.func22 dq21 rfl #[.slice A0 l0.length c0] rfl dq20 ?_; (with_reducible refine (spec_Clear.calls k _ _ l0 false _ ?side1 ?side2 A4.out).mono ?_); (case side1 => exact dq5); (case side2 => exact dq4); rintro e w7 ⟨rfl, hb⟩; refine ⟨_, rfl, ?_⟩; have n0_ := Aside0.mk (below_step dq17 hb); clear HB; have HB := n0_; clear n0_; (try clear hb); (try clear hb2); (try clear hk); (try clear hi)))
  go_meet
  case rel => exact ⟨_, (true), dq15, H', ⟨dq45⟩, ⟨dq17⟩⟩
 clear HC3
 obtain ⟨kq, x18_2, rfl, HA, HJ2, HB⟩ := hcut
 cases kq with
 | zero => exact absurd HA.out (by simp [spec_Attribute.j0])
 | succ kj2 =>
  have H := HA.out
  clear HA
  simp only [spec_Attribute.j0] at H
  by_cases c8 : x18_2 = true
  ·subst c8
   have H1 : (some (([] : List Int), false)) = some (r1, r2) := by rw [if_pos rfl] at H; exact H
   clear H
   have H := H1
   clear H1
   simp only [Option.some.injEq, Prod.mk.injEq] at H
   obtain ⟨rfl, rfl⟩ := H
   go_wp2
   go_ret2
   exact ⟨_, dq19, dq91, dq17⟩
  replace c8 := Bool.eq_false_iff.mpr c8
  subst c8
  have H1 : ((spec_FirstOf.f kj2 l0).bind fun t459 => (spec_Attribute.l0 kj2 l0 l1 (([] : List Int)) t459 0)) = some (r1, r2) := by rw [if_neg (show ¬ (false = true) by decide)] at H; exact H
  clear H
  have H := H1
  clear H1
  obtain ⟨y456, hy456⟩ : ∃ y_ : List Int, y_ = (([] : List Int)) := ⟨_, rfl⟩
  replace H : ((spec_FirstOf.f kj2 l0).bind fun t459 => (spec_Attribute.l0 kj2 l0 l1 y456 t459 0)) = some (r1, r2) := by first | (rw [hy456]; with_reducible exact H) | (have H2_ := (Option.bind_some _ _).symm.trans H; rw [hy456]; with_reducible exact H2_) | (have H2_ := (Option.bind_some _ _).symm.trans H; with_reducible exact H2_) | with_reducible exact H | (rw [hy456]; exact H) | exact H
  have Ny456 := Aside0.mk hy456
  clear hy456
  replace H := Option.bind_eq_some_iff.mp H
  obtain ⟨t459, A90, H⟩ := H
  replace H : (spec_Attribute.l0 kj2 l0 l1 y456 t459 0) = some (r1, r2) := H
  have A9 := Aside0.mk A90
  clear A90
  have H' := Aside0.mk H
  clear H
  go_wp2_with (first | ((with_reducible refine gate_dst (N := 19) rfl ?_); (try (refine gate_guard (by rfl) ?_; dsimp only)); refine Kd.R_lit (Kd.int .i64) _ 2 ?hg (N := 19) ?hd (xs := ([] : List Int)) (inner := []) (ok := fun _ => True) (okp := fun _ => True) ?hr ?hp (fun _ hk => hk) trivial (Below.refl _ _) (Nat.le_refl _) dq24 ?_; (case hd => rfl); (case hg => rfl); (case hr => exact dq0); (case hp => exact (Reps.none _ _)); intro v457 w10 ho11 hb hg_ hnew_; clear hg_ hnew_; (first | rw [← Ny456.out] at ho11 | (simp only [Int.reduceToNat] at ho11; rw [← Ny456.out] at ho11)); have n0_ := Aside0.mk (Kd.R_lower ho11 (below_size dq17)); have n1_ := Aside0.mk (below_step dq17 hb); clear HB; have HO458 := n0_; have HB := n1_; clear n0_ n1_; clear hb ho11) | ((with_reducible refine gate_callee (f := 10) rfl ?_); refine goesL_ (some 21) rfl rfl Try.func10 dq21 rfl #[.slice A0 l0.length c0] rfl dq20 ?_; (with_reducible refine (spec_FirstOf.calls kj2 _ _ l0 t459 _ ?side1 ?side2 A9.out).mono ?_); (case side1 => exact dq5); (case side2 => exact dq4); rintro e w12 ⟨v460, rfl, ho0, hb⟩; refine ⟨_, rfl, ?_⟩; have n0_ := Aside0.mk (Kd.R_elder' (by (with_reducible repeat (first | apply Kd.R_alloc | apply Kd.R_drewN | apply Kd.R_drew)); exact HO458.out) (Kd.R_base ho0) hb); have n1_ := Aside0.mk (Kd.R_lower (Kd.R_new' ho0 (Kd.R_lt (by (with_reducible repeat (first | apply Kd.R_alloc | apply Kd.R_drewN | apply Kd.R_drew)); exact HO458.out))) (below_size dq17)); have n2_ := Aside0.mk (below_step dq17 hb); clear HO458; clear HB; have HO458 := n0_; have HO461 := n1_; have HB := n2_; clear n0_ n1_ n2_; (try clear hb); (try clear hb2); (try clear hk); (try clear hi); (try clear ho0)))
  go_loopg [6, 7, 8] kj2 (fun kq v6 v7 v8 w' => ∃ (x6_2 : List Int) (x7_2 : List Int) (x8_2 : Int), v8 = .int .i64 x8_2 ∧ Aside0 (spec_Attribute.l0 kq l0 l1 x6_2 x7_2 x8_2 = some (r1, r2)) ∧ Aside0 (kq ≤ kj2) ∧ Aside0 (Kd.R (Kd.int .i64) 2 w' w.heap.size (fun k_ => some k_ ≠ (v7 : Value).ownBlock) v6 x6_2) ∧ Aside0 (Kd.R (Kd.int .i64) 2 w' w.heap.size (fun k_ => some k_ ≠ (v6 : Value).ownBlock) v7 x7_2) ∧ Aside0 (Below w.heap.size w w'))
  case atStart => exact ⟨(y456), (t459), (0), dq15, H', ⟨Nat.le_refl _⟩, ⟨by (with_reducible repeat (first | apply Kd.R_alloc | apply Kd.R_drewN | apply Kd.R_drew)); exact Kd.R_mono HO458.out (fun _ hk => hk.2)⟩, ⟨by (with_reducible repeat (first | apply Kd.R_alloc | apply Kd.R_drewN | apply Kd.R_drew)); exact Kd.R_mono HO461.out (fun _ hk => hk.2)⟩, ⟨dq17⟩⟩
  clear H'
  obtain ⟨x6_2, x7_2, x8_2, rfl, HA, HK2, HO_6, HO_7, HB⟩ := hrel
  cases gk with
  | zero => exact absurd HA.out (by simp [spec_Attribute.l0])
  | succ k2 =>
   have H := HA.out
   clear HA
   simp only [spec_Attribute.l0] at H
   by_cases c13 : x8_2 < (l1.length : Int)
   ·rw [if_pos c13] at H
    have c13b0 := decide_eq_true c13
    clear c13
    have H' := Aside0.mk H
    clear H
    go_wp2
    go_loopg [9, 10] k2 (fun kq v9 v10 w' => ∃ (x9_3 : Int) (x10_3 : Int), v9 = .int .i64 x9_3 ∧ v10 = .int .i64 x10_3 ∧ Aside0 (spec_Attribute.l1 kq l0 l1 x6_2 x7_2 x8_2 x9_3 x10_3 = some (r1, r2)) ∧ Aside0 (kq ≤ k2) ∧ Aside0 (Kd.R (Kd.int .i64) 2 w' w.heap.size (fun k_ => some k_ ≠ (u7 : Value).ownBlock) u6 x6_2) ∧ Aside0 (Kd.R (Kd.int .i64) 2 w' w.heap.size (fun k_ => some k_ ≠ (u6 : Value).ownBlock) u7 x7_2) ∧ Aside0 (Below w.heap.size w w'))
    case atStart => exact ⟨((-1)), (0), dq15, dq15, H', ⟨Nat.le_refl _⟩, ⟨dq93⟩, ⟨dq92⟩, ⟨dq17⟩⟩
    clear H'
    try clear c13b0
    obtain ⟨x9_3, x10_3, rfl, rfl, HA, HK3, HO_6, HO_7, HB⟩ := hrel
    cases gk with
    | zero => exact absurd HA.out (by simp [spec_Attribute.l1])
    | succ k3 =>
     have H := HA.out
     clear HA
     simp only [spec_Attribute.l1] at H
     by_cases c14 : x10_3 < (x7_2.length : Int)
     rotate_left
     ·rw [if_neg c14] at H
      have c14b0 := decide_eq_false c14
      clear c14
      by_cases c28 : x9_3 < 0
      ·rw [if_pos c28] at H
       have c28b0 := decide_eq_true c28
       clear c28
       simp only [Option.some.injEq, Prod.mk.injEq] at H
       obtain ⟨rfl, rfl⟩ := H
       obtain ⟨Ao29, co29, eo29⟩ := Kd.R_slice HO_7.out
       subst eo29
       go_wp2
       go_ret2
       exact ⟨_, dq19, dq91, dq17⟩
      rw [if_neg c28] at H
      have c28b0 := decide_eq_false c28
      clear c28
      by_cases c30 : x6_2.length < 17592186044416
      rotate_left
      ·rw [if_neg c30] at H
       exact absurd H dq24
      rw [if_pos c30] at H
      have LMc30 := Aside0.mk c30
      clear c30
      obtain ⟨y469, hy469⟩ : ∃ y_ : List Int, y_ = (x6_2 ++ [x9_3]) := ⟨_, rfl⟩
      replace H : ((spec_l8Follow.f k3 l0 x9_3).bind fun t472 => (spec_Attribute.l0 k3 l0 l1 y469 t472 (wrap64 (x8_2 + 1)))) = some (r1, r2) := by first | (rw [hy469]; with_reducible exact H) | (have H2_ := (Option.bind_some _ _).symm.trans H; rw [hy469]; with_reducible exact H2_) | (have H2_ := (Option.bind_some _ _).symm.trans H; with_reducible exact H2_) | with_reducible exact H | (rw [hy469]; exact H) | exact H
      have Ny469 := Aside0.mk hy469
      clear hy469
      replace H := Option.bind_eq_some_iff.mp H
      obtain ⟨t472, A310, H⟩ := H
      replace H : (spec_Attribute.l0 k3 l0 l1 y469 t472 (wrap64 (x8_2 + 1))) = some (r1, r2) := H
      have A31 := Aside0.mk A310
      clear A310
      have H' := Aside0.mk H
      clear H
      obtain ⟨Ao32, co32, eo32⟩ := Kd.R_slice HO_7.out
      subst eo32
      go_wp2_with (first | ((with_reducible refine gate_builtin (b := .append) (xs := #[.tmp 64, .tmp 66]) rfl ?_); (try (refine gate_guard (by rfl) ?_; dsimp only)); at_builtin; refine Kd.R_append (Kd.int .i64) (w0 := w) w.heap.size rfl (.tmp 64) (.tmp 66) 24 2 (.int .i64 0) 8 rfl Try.underlying24 info2 rfl dq26 dq25 u6 x6_2 x9_3 [.int .i64 x9_3] (fun k_ => some k_ ≠ (.slice Ao32 x7_2.length co32 : Value).ownBlock) (fun _ => False) rfl rfl ?aP (fun _ hk => hk.elim) ?aF ?aO ?aB ?aS ?aL ?_; (case aP => exact rfl); (case aB => exact dq17); (case aF => exact (fun k_ hk => Kd.fresh' (Kd.R_lt dq92) k_ hk)); (case aO => exact dq93); (case aS => exact (below_size dq17)); (case aL => have := LMc30.out; omega); intro v470 w33 ho hb hg hat; rw [← Ny469.out] at ho; have n0_ := Aside0.mk (Kd.R_after (ok := (fun _ => True)) (by (with_reducible repeat (first | apply Kd.R_alloc | apply Kd.R_drewN | apply Kd.R_drew)); exact Kd.R_mono HO_7.out (fun _ hk => ⟨trivial, hk⟩)) hg hat); have n1_ := Aside0.mk (hb); have n2_ := Aside0.mk (ho); clear HO_7; clear HB; clear HO_6; have HO_7 := n0_; have HB := n1_; have HO471 := n2_; clear n0_ n1_ n2_; clear ho hb hg hat) | ((with_reducible refine gate_callee (f := 46) rfl ?_); refine goesL_ (some 70) rfl rfl Try.func46 dq21 rfl #[.slice A0 l0.length c0, .int .i64 x9_3] rfl dq20 ?_; (with_reducible refine (spec_l8Follow.calls k3 _ _ l0 x9_3 t472 _ ?side1 ?side2 A31.out).mono ?_); (case side1 => exact dq5); (case side2 => exact dq4); rintro e w34 ⟨v473, rfl, ho0, hb⟩; refine ⟨_, rfl, ?_⟩; have n0_ := Aside0.mk (Kd.R_elder' dq92 (Kd.R_base ho0) hb); have n1_ := Aside0.mk (Kd.R_elder' (by (with_reducible repeat (first | apply Kd.R_alloc | apply Kd.R_drewN | apply Kd.R_drew)); exact HO471.out) (Kd.R_base ho0) hb); have n2_ := Aside0.mk (Kd.R_lower (Kd.R_new' (Kd.R_new' ho0 (Kd.R_lt dq92)) (Kd.R_lt (by (with_reducible repeat (first | apply Kd.R_alloc | apply Kd.R_drewN | apply Kd.R_drew)); exact HO471.out))) (below_size dq17)); have n3_ := Aside0.mk (below_step dq17 hb); clear HO_7; clear HO471; clear HB; have HO_7 := n0_; have HO471 := n1_; have HO474 := n2_; have HB := n3_; clear n0_ n1_ n2_ n3_; (try clear hb); (try clear hb2); (try clear hk); (try clear hi); (try clear ho0)))
      go_roundg k3
      case measure => have := HJ2.out; have := HK2.out; have := HK3.out; omega
      case rel => exact ⟨(y469), (t472), (wrap64 (x8_2 + 1)), dq15, H', ⟨dq94⟩, ⟨by (with_reducible repeat (first | apply Kd.R_alloc | apply Kd.R_drewN | apply Kd.R_drew)); exact Kd.R_mono HO471.out (fun _ hk => hk.2)⟩, ⟨by (with_reducible repeat (first | apply Kd.R_alloc | apply Kd.R_drewN | apply Kd.R_drew)); exact Kd.R_mono HO474.out (fun _ hk => hk.2)⟩, ⟨dq17⟩⟩
     rw [if_pos c14] at H
     have c14b0 := decide_eq_true c14
     clear c14
     by_cases c15 : 0 ≤ x10_3
     rotate_left
     ·rw [if_neg c15] at H
      exact absurd H dq24
     rw [if_pos c15] at H
     have c15b0 := decide_eq_true c15
     clear c15
     by_cases c16 : 0 ≤ (rd x7_2 x10_3)
     rotate_left
     ·rw [if_neg c16] at H
      exact absurd H dq24
     rw [if_pos c16] at H
     have c16b0 := decide_eq_true c16
     clear c16
     by_cases c17 : (rd x7_2 x10_3) < (l0.length : Int)
     rotate_left
     ·rw [if_neg c17] at H
      exact absurd H dq24
     rw [if_pos c17] at H
     have c17b0 := decide_eq_true c17
     clear c17
     by_cases c18 : ((rd_T49 l0 (rd x7_2 x10_3)).f0) = 4
     ·rw [if_pos c18] at H
      have c18b0 := beq_iff_eq.mpr c18
      have c18b1 := bne_eq_false_iff_eq.mpr c18
      clear c18
      have H' := Aside0.mk H
      clear H
      obtain ⟨Ao19, co19, eo19⟩ := Kd.R_slice HO_7.out
      subst eo19
      try go_wp2
      have n0_ := Aside0.mk (Kd.R_drew HO_6.out)
      have n1_ := Aside0.mk (Kd.R_drew HO_7.out)
      have n2_ := Aside0.mk (below_drew1 HB.out)
      clear HO_6
      clear HO_7
      clear HB
      have HO_6 := n0_
      have HO_7 := n1_
      have HB := n2_
      clear n0_ n1_ n2_
      have p462 : 0 ≤ (x10_3 : Int) := of_decide_eq_true dq22
      have q462 : x10_3 < (x7_2.length : Int) := of_decide_eq_true dq22
      (try (obtain ⟨Aq_, cq_, eq_⟩ := Kd.R_slice HO_7.out; subst eq_))
      obtain ⟨ad462, e462, hx462_0⟩ := Kd.at_int (Kd.R_reads' HO_7.out).2.2 x10_3 p462 q462
      cases e462
      replace p462 := eq_true p462
      replace q462 := eq_true q462
      have p463 : 0 ≤ ((rd x7_2 x10_3) : Int) := of_decide_eq_true dq22
      have q463 : (rd x7_2 x10_3) < (l0.length : Int) := of_decide_eq_true dq22
      obtain ⟨ad463, A463_2, c463_2, e463, hx463_0, hx463_1, hx463_2, hx463_3, hl463_2, hi463_2⟩ := at_T49 HR0.out (rd x7_2 x10_3) p463 q463
      have hw463_3 := hx463_3
      have hw463_2 := hx463_2
      have hw463_1 := hx463_1
      have hw463_0 := hx463_0
      cases e463
      replace hx463_0 := (HB.out.cell (World.block_lt_of_cell? w _ hx463_0)).trans hx463_0
      replace hx463_1 := (HB.out.cell (World.block_lt_of_cell? w _ hx463_1)).trans hx463_1
      replace hx463_2 := (HB.out.cell (World.block_lt_of_cell? w _ hx463_2)).trans hx463_2
      replace hx463_3 := (HB.out.cell (World.block_lt_of_cell? w _ hx463_3)).trans hx463_3
      have HR463_2 := Aside0.mk hi463_2
      have HC463_2 := Aside0.mk hl463_2
      clear hi463_2 hl463_2
      replace p463 := eq_true p463
      replace q463 := eq_true q463
      refine start_ (n := 24) (S := fun w' => w'.cell? (ad462.add (x10_3).toNat) = some (.int .i64 (rd x7_2 x10_3)) ∧ w'.cell? (ad463.add (((rd x7_2 x10_3)).toNat * 4)) = some (.int .i64 ((rd_T49 l0 (rd x7_2 x10_3)).f0)) ∧ w'.cell? ⟨(ad463.add (((rd x7_2 x10_3)).toNat * 4)).block, (ad463.add (((rd x7_2 x10_3)).toNat * 4)).off + 1, none⟩ = some (.string ((rd_T49 l0 (rd x7_2 x10_3)).f1)) ∧ w'.cell? ⟨(ad463.add (((rd x7_2 x10_3)).toNat * 4)).block, (ad463.add (((rd x7_2 x10_3)).toNat * 4)).off + 2, none⟩ = some (.slice A463_2 ((rd_T49 l0 (rd x7_2 x10_3)).f2).length c463_2) ∧ w'.cell? ⟨(ad463.add (((rd x7_2 x10_3)).toNat * 4)).block, (ad463.add (((rd x7_2 x10_3)).toNat * 4)).off + 3, none⟩ = some (.int .i64 ((rd_T49 l0 (rd x7_2 x10_3)).f3))) (ds := []) (bitsA 24 0) dq21 rfl rfl ⟨hx462_0, ((HB.out.cell (World.block_lt_of_cell? w _ hw463_0)).trans hw463_0), ((HB.out.cell (World.block_lt_of_cell? w _ hw463_1)).trans hw463_1), ((HB.out.cell (World.block_lt_of_cell? w _ hw463_2)).trans hw463_2), ((HB.out.cell (World.block_lt_of_cell? w _ hw463_3)).trans hw463_3)⟩ (fun hHeld => ?_); refine with_tabW spec_Attribute.tab12 spec_Attribute.bits12 (fun HT_ HW_ => ?_)
      generalize wr.drew = w20 at HO_6 HO_7 HB HR463_2 hx462_0 hx463_0 hx463_1 hx463_2 hx463_3 hHeld ⊢
      refine pureA (i := 0) (N := some 34) (bitsA 24 1) ?_
      refine pureA (i := 1) (N := some 35) (bitsA 24 3) ?_
      refine pureA (i := 2) (N := some 36) (bitsA 24 7) ?_
      refine pureA (i := 3) (N := some 37) (bitsA 24 15) ?_
      refine takeA5 (i := 4) (N := some 38) (bitsA 24 31) ?_
      refine pureA (i := 5) (N := some 39) (bitsA 24 63) ?_
      refine pureA (i := 6) (N := some 40) (bitsA 24 127) ?_
      refine takeA5 (i := 7) (N := some 41) (bitsA 24 255) ?_
      refine pureA (i := 8) (N := some 42) (bitsA 24 511) ?_
      refine pureA (i := 9) (N := some 43) (bitsA 24 1023) ?_
      refine pureN (i := 10) (N := some 44) (bitsA 24 2047) ?_
      refine pureN (i := 11) (N := some 45) (bitsA 24 4095) ?_
      refine pureN (i := 12) (N := some 46) (bitsA 24 8191) ?_
      refine pureN (i := 13) (N := some 47) (bitsA 24 16383) ?_
      refine pureN (i := 14) (N := some 48) (bitsA 24 32767) ?_
      refine pureN (i := 15) (N := some 49) (bitsA 24 65535) ?_
      refine pureN (i := 16) (N := some 50) (bitsA 24 131071) ?_
      refine pureN (i := 17) (N := some 51) (bitsA 24 262143) ?_
      refine pureN (i := 18) (N := some 52) (bitsA 24 524287) ?_
      refine pureN (i := 19) (N := some 53) (bitsA 24 1048575) ?_
      refine pureN (i := 20) (N := some 54) (bitsA 24 2097151) ?_
      refine pureN (i := 21) (N := some 55) (bitsA 24 4194303) ?_
      refine pureN (i := 22) (N := some 56) (bitsA 24 8388607) ?_
      refine pureA (i := 23) (N := some 57) (bitsA 24 16777215) ?_
      refine done_ (done_of HT_.out dq21) ?_
      have p464 : 0 ≤ (x10_3 : Int) := of_decide_eq_true dq22
      have q464 : x10_3 < (x7_2.length : Int) := of_decide_eq_true dq22
      (try (obtain ⟨Aq_, cq_, eq_⟩ := Kd.R_slice HO_7.out; subst eq_))
      obtain ⟨ad464, e464, hx464_0⟩ := Kd.at_int (Kd.R_reads' HO_7.out).2.2 x10_3 p464 q464
      obtain rfl : ad462 = ad464 := (by injection e464)
      replace p464 := eq_true p464
      replace q464 := eq_true q464
      try go_wp2
      go_roundg k3
      case measure => have := HJ2.out; have := HK2.out; have := HK3.out; omega
      case rel => exact ⟨(rd x7_2 x10_3), (wrap64 (x10_3 + 1)), dq15, dq15, H', ⟨dq94⟩, ⟨dq93⟩, ⟨dq92⟩, ⟨dq17⟩⟩
     rw [if_neg c18] at H
     have c18b0 := beq_eq_false_iff_ne.mpr c18
     have c18b1 := bne_iff_ne.mpr c18
     by_cases c21 : 0 ≤ x8_2
     rotate_left
     ·rw [if_neg c21] at H
      exact absurd H dq24
     rw [if_pos c21] at H
     have c21b0 := decide_eq_true c21
     clear c21
     by_cases c22 : x8_2 < (l1.length : Int)
     rotate_left
     ·rw [if_neg c22] at H
      exact absurd H dq24
     rw [if_pos c22] at H
     have c22b0 := decide_eq_true c22
     clear c22
     by_cases c23 : ((rd_T49 l0 (rd x7_2 x10_3)).f1).toList = (rdOf ByteArray.empty l1 x8_2).toList
     rotate_left
     ·rw [if_neg c23] at H
      have c23b0 := beq_eq_false_iff_ne.mpr c23
      have c23b1 := bne_iff_ne.mpr c23
      have H' := Aside0.mk H
      clear H
      obtain ⟨Ao26, co26, eo26⟩ := Kd.R_slice HO_7.out
      subst eo26
      try go_wp2
      have n0_ := Aside0.mk (Kd.R_drew HO_6.out)
      have n1_ := Aside0.mk (Kd.R_drew HO_7.out)
      have n2_ := Aside0.mk (below_drew1 HB.out)
      clear HO_6
      clear HO_7
      clear HB
      have HO_6 := n0_
      have HO_7 := n1_
      have HB := n2_
      clear n0_ n1_ n2_
      have p462 : 0 ≤ (x10_3 : Int) := of_decide_eq_true dq22
      have q462 : x10_3 < (x7_2.length : Int) := of_decide_eq_true dq22
      (try (obtain ⟨Aq_, cq_, eq_⟩ := Kd.R_slice HO_7.out; subst eq_))
      obtain ⟨ad462, e462, hx462_0⟩ := Kd.at_int (Kd.R_reads' HO_7.out).2.2 x10_3 p462 q462
      cases e462
      replace p462 := eq_true p462
      replace q462 := eq_true q462
      have p463 : 0 ≤ ((rd x7_2 x10_3) : Int) := of_decide_eq_true dq22
      have q463 : (rd x7_2 x10_3) < (l0.length : Int) := of_decide_eq_true dq22
      obtain ⟨ad463, A463_2, c463_2, e463, hx463_0, hx463_1, hx463_2, hx463_3, hl463_2, hi463_2⟩ := at_T49 HR0.out (rd x7_2 x10_3) p463 q463
      have hw463_3 := hx463_3
      have hw463_2 := hx463_2
      have hw463_1 := hx463_1
      have hw463_0 := hx463_0
      cases e463
      replace hx463_0 := (HB.out.cell (World.block_lt_of_cell? w _ hx463_0)).trans hx463_0
      replace hx463_1 := (HB.out.cell (World.block_lt_of_cell? w _ hx463_1)).trans hx463_1
      replace hx463_2 := (HB.out.cell (World.block_lt_of_cell? w _ hx463_2)).trans hx463_2
      replace hx463_3 := (HB.out.cell (World.block_lt_of_cell? w _ hx463_3)).trans hx463_3
      have HR463_2 := Aside0.mk hi463_2
      have HC463_2 := Aside0.mk hl463_2
      clear hi463_2 hl463_2
      replace p463 := eq_true p463
      replace q463 := eq_true q463
      have p465 : 0 ≤ (x10_3 : Int) := of_decide_eq_true dq22
      have q465 : x10_3 < (x7_2.length : Int) := of_decide_eq_true dq22
      (try (obtain ⟨Aq_, cq_, eq_⟩ := Kd.R_slice HO_7.out; subst eq_))
      obtain ⟨ad465, e465, hx465_0⟩ := Kd.at_int (Kd.R_reads' HO_7.out).2.2 x10_3 p465 q465
      obtain rfl : ad462 = ad465 := (by injection e465)
      replace p465 := eq_true p465
      replace q465 := eq_true q465
      have p466 : 0 ≤ ((rd x7_2 x10_3) : Int) := of_decide_eq_true dq22
      have q466 : (rd x7_2 x10_3) < (l0.length : Int) := of_decide_eq_true dq22
      obtain ⟨ad466, A466_2, c466_2, e466, hx466_0, hx466_1, hx466_2, hx466_3, hl466_2, hi466_2⟩ := at_T49 HR0.out (rd x7_2 x10_3) p466 q466
      have hw466_3 := hx466_3
      have hw466_2 := hx466_2
      have hw466_1 := hx466_1
      have hw466_0 := hx466_0
      obtain rfl : ad463 = ad466 := (by injection e466)
      replace hx466_0 := (HB.out.cell (World.block_lt_of_cell? w _ hx466_0)).trans hx466_0
      replace hx466_1 := (HB.out.cell (World.block_lt_of_cell? w _ hx466_1)).trans hx466_1
      replace hx466_2 := (HB.out.cell (World.block_lt_of_cell? w _ hx466_2)).trans hx466_2
      replace hx466_3 := (HB.out.cell (World.block_lt_of_cell? w _ hx466_3)).trans hx466_3
      have HR466_2 := Aside0.mk hi466_2
      have HC466_2 := Aside0.mk hl466_2
      clear hi466_2 hl466_2
      replace p466 := eq_true p466
      replace q466 := eq_true q466
      have ea_ := Option.some.inj (hx463_2.symm.trans hx466_2)
      injection ea_ with ea_ en_ ec_
      subst ea_
      subst ec_
      clear en_
      have p467 : 0 ≤ (x8_2 : Int) := of_decide_eq_true dq22
      have q467 : x8_2 < (l1.length : Int) := of_decide_eq_true dq22
      obtain ⟨ad467, e467, hx467_0⟩ := Kd.at_string HR1.out x8_2 p467 q467
      have hw467_0 := hx467_0
      cases e467
      replace hx467_0 := (HB.out.cell (World.block_lt_of_cell? w _ hx467_0)).trans hx467_0
      replace p467 := eq_true p467
      replace q467 := eq_true q467
      refine start_ (n := 24) (S := fun w' => w'.cell? (ad462.add (x10_3).toNat) = some (.int .i64 (rd x7_2 x10_3)) ∧ w'.cell? (ad463.add (((rd x7_2 x10_3)).toNat * 4)) = some (.int .i64 ((rd_T49 l0 (rd x7_2 x10_3)).f0)) ∧ w'.cell? ⟨(ad463.add (((rd x7_2 x10_3)).toNat * 4)).block, (ad463.add (((rd x7_2 x10_3)).toNat * 4)).off + 1, none⟩ = some (.string ((rd_T49 l0 (rd x7_2 x10_3)).f1)) ∧ w'.cell? ⟨(ad463.add (((rd x7_2 x10_3)).toNat * 4)).block, (ad463.add (((rd x7_2 x10_3)).toNat * 4)).off + 2, none⟩ = some (.slice A463_2 ((rd_T49 l0 (rd x7_2 x10_3)).f2).length c463_2) ∧ w'.cell? ⟨(ad463.add (((rd x7_2 x10_3)).toNat * 4)).block, (ad463.add (((rd x7_2 x10_3)).toNat * 4)).off + 3, none⟩ = some (.int .i64 ((rd_T49 l0 (rd x7_2 x10_3)).f3)) ∧ w'.cell? (ad462.add (x10_3).toNat) = some (.int .i64 (rd x7_2 x10_3)) ∧ w'.cell? (ad463.add (((rd x7_2 x10_3)).toNat * 4)) = some (.int .i64 ((rd_T49 l0 (rd x7_2 x10_3)).f0)) ∧ w'.cell? ⟨(ad463.add (((rd x7_2 x10_3)).toNat * 4)).block, (ad463.add (((rd x7_2 x10_3)).toNat * 4)).off + 1, none⟩ = some (.string ((rd_T49 l0 (rd x7_2 x10_3)).f1)) ∧ w'.cell? ⟨(ad463.add (((rd x7_2 x10_3)).toNat * 4)).block, (ad463.add (((rd x7_2 x10_3)).toNat * 4)).off + 2, none⟩ = some (.slice A463_2 ((rd_T49 l0 (rd x7_2 x10_3)).f2).length c463_2) ∧ w'.cell? ⟨(ad463.add (((rd x7_2 x10_3)).toNat * 4)).block, (ad463.add (((rd x7_2 x10_3)).toNat * 4)).off + 3, none⟩ = some (.int .i64 ((rd_T49 l0 (rd x7_2 x10_3)).f3)) ∧ w'.cell? (ad467.add (x8_2).toNat) = some (.string (rdOf ByteArray.empty l1 x8_2))) (ds := []) (bitsA 24 0) dq21 rfl rfl ⟨hx462_0, ((HB.out.cell (World.block_lt_of_cell? w _ hw463_0)).trans hw463_0), ((HB.out.cell (World.block_lt_of_cell? w _ hw463_1)).trans hw463_1), ((HB.out.cell (World.block_lt_of_cell? w _ hw463_2)).trans hw463_2), ((HB.out.cell (World.block_lt_of_cell? w _ hw463_3)).trans hw463_3), hx465_0, ((HB.out.cell (World.block_lt_of_cell? w _ hw466_0)).trans hw466_0), ((HB.out.cell (World.block_lt_of_cell? w _ hw466_1)).trans hw466_1), ((HB.out.cell (World.block_lt_of_cell? w _ hw466_2)).trans hw466_2), ((HB.out.cell (World.block_lt_of_cell? w _ hw466_3)).trans hw466_3), ((HB.out.cell (World.block_lt_of_cell? w _ hw467_0)).trans hw467_0)⟩ (fun hHeld => ?_); refine with_tabW spec_Attribute.tab12 spec_Attribute.bits12 (fun HT_ HW_ => ?_)
      generalize wr.drew = w27 at HO_6 HO_7 HB HR463_2 HR466_2 hx462_0 hx463_0 hx463_1 hx463_2 hx463_3 hx465_0 hx466_0 hx466_1 hx466_2 hx466_3 hx467_0 hHeld ⊢
      refine pureA (i := 0) (N := some 34) (bitsA 24 1) ?_
      refine pureA (i := 1) (N := some 35) (bitsA 24 3) ?_
      refine pureA (i := 2) (N := some 36) (bitsA 24 7) ?_
      refine pureA (i := 3) (N := some 37) (bitsA 24 15) ?_
      refine takeA11 (i := 4) (N := some 38) (bitsA 24 31) ?_
      refine pureA (i := 5) (N := some 39) (bitsA 24 63) ?_
      refine pureA (i := 6) (N := some 40) (bitsA 24 127) ?_
      refine takeA11 (i := 7) (N := some 41) (bitsA 24 255) ?_
      refine pureA (i := 8) (N := some 42) (bitsA 24 511) ?_
      refine pureA (i := 9) (N := some 43) (bitsA 24 1023) ?_
      refine pureA (i := 10) (N := some 44) (bitsA 24 2047) ?_
      refine pureA (i := 11) (N := some 45) (bitsA 24 4095) ?_
      refine pureA (i := 12) (N := some 46) (bitsA 24 8191) ?_
      refine pureA (i := 13) (N := some 47) (bitsA 24 16383) ?_
      refine pureA (i := 18) (N := some 52) (bitsA 24 278527) ?_
      refine pureA (i := 19) (N := some 53) (bitsA 24 802815) ?_
      refine pureA (i := 20) (N := some 54) (bitsA 24 1851391) ?_
      refine takeA11 (i := 14) (N := some 48) (bitsA 24 1867775) ?_
      refine pureA (i := 15) (N := some 49) (bitsA 24 1900543) ?_
      refine pureA (i := 16) (N := some 50) (bitsA 24 1966079) ?_
      refine takeA11 (i := 17) (N := some 51) (bitsA 24 2097151) ?_
      refine takeA11 (i := 21) (N := some 55) (bitsA 24 4194303) ?_
      refine pureA (i := 22) (N := some 56) (bitsA 24 8388607) ?_
      refine pureA (i := 23) (N := some 57) (bitsA 24 16777215) ?_
      refine done_ (done_of HT_.out dq21) ?_
      try go_wp2
      go_roundg k3
      case measure => have := HJ2.out; have := HK2.out; have := HK3.out; omega
      case rel => exact ⟨(x9_3), (wrap64 (x10_3 + 1)), dq15, dq15, H', ⟨dq94⟩, ⟨dq93⟩, ⟨dq92⟩, ⟨dq17⟩⟩
     rw [if_pos c23] at H
     have c23b0 := beq_iff_eq.mpr c23
     have c23b1 := bne_eq_false_iff_eq.mpr c23
     clear c23
     have H' := Aside0.mk H
     clear H
     obtain ⟨Ao24, co24, eo24⟩ := Kd.R_slice HO_7.out
     subst eo24
     try go_wp2
     have n0_ := Aside0.mk (Kd.R_drew HO_6.out)
     have n1_ := Aside0.mk (Kd.R_drew HO_7.out)
     have n2_ := Aside0.mk (below_drew1 HB.out)
     clear HO_6
     clear HO_7
     clear HB
     have HO_6 := n0_
     have HO_7 := n1_
     have HB := n2_
     clear n0_ n1_ n2_
     have p462 : 0 ≤ (x10_3 : Int) := of_decide_eq_true dq22
     have q462 : x10_3 < (x7_2.length : Int) := of_decide_eq_true dq22
     (try (obtain ⟨Aq_, cq_, eq_⟩ := Kd.R_slice HO_7.out; subst eq_))
     obtain ⟨ad462, e462, hx462_0⟩ := Kd.at_int (Kd.R_reads' HO_7.out).2.2 x10_3 p462 q462
     cases e462
     replace p462 := eq_true p462
     replace q462 := eq_true q462
     have p463 : 0 ≤ ((rd x7_2 x10_3) : Int) := of_decide_eq_true dq22
     have q463 : (rd x7_2 x10_3) < (l0.length : Int) := of_decide_eq_true dq22
     obtain ⟨ad463, A463_2, c463_2, e463, hx463_0, hx463_1, hx463_2, hx463_3, hl463_2, hi463_2⟩ := at_T49 HR0.out (rd x7_2 x10_3) p463 q463
     have hw463_3 := hx463_3
     have hw463_2 := hx463_2
     have hw463_1 := hx463_1
     have hw463_0 := hx463_0
     cases e463
     replace hx463_0 := (HB.out.cell (World.block_lt_of_cell? w _ hx463_0)).trans hx463_0
     replace hx463_1 := (HB.out.cell (World.block_lt_of_cell? w _ hx463_1)).trans hx463_1
     replace hx463_2 := (HB.out.cell (World.block_lt_of_cell? w _ hx463_2)).trans hx463_2
     replace hx463_3 := (HB.out.cell (World.block_lt_of_cell? w _ hx463_3)).trans hx463_3
     have HR463_2 := Aside0.mk hi463_2
     have HC463_2 := Aside0.mk hl463_2
     clear hi463_2 hl463_2
     replace p463 := eq_true p463
     replace q463 := eq_true q463
     have p465 : 0 ≤ (x10_3 : Int) := of_decide_eq_true dq22
     have q465 : x10_3 < (x7_2.length : Int) := of_decide_eq_true dq22
     (try (obtain ⟨Aq_, cq_, eq_⟩ := Kd.R_slice HO_7.out; subst eq_))
     obtain ⟨ad465, e465, hx465_0⟩ := Kd.at_int (Kd.R_reads' HO_7.out).2.2 x10_3 p465 q465
     obtain rfl : ad462 = ad465 := (by injection e465)
     replace p465 := eq_true p465
     replace q465 := eq_true q465
     have p466 : 0 ≤ ((rd x7_2 x10_3) : Int) := of_decide_eq_true dq22
     have q466 : (rd x7_2 x10_3) < (l0.length : Int) := of_decide_eq_true dq22
     obtain ⟨ad466, A466_2, c466_2, e466, hx466_0, hx466_1, hx466_2, hx466_3, hl466_2, hi466_2⟩ := at_T49 HR0.out (rd x7_2 x10_3) p466 q466
     have hw466_3 := hx466_3
     have hw466_2 := hx466_2
     have hw466_1 := hx466_1
     have hw466_0 := hx466_0
     obtain rfl : ad463 = ad466 := (by injection e466)
     replace hx466_0 := (HB.out.cell (World.block_lt_of_cell? w _ hx466_0)).trans hx466_0
     replace hx466_1 := (HB.out.cell (World.block_lt_of_cell? w _ hx466_1)).trans hx466_1
     replace hx466_2 := (HB.out.cell (World.block_lt_of_cell? w _ hx466_2)).trans hx466_2
     replace hx466_3 := (HB.out.cell (World.block_lt_of_cell? w _ hx466_3)).trans hx466_3
     have HR466_2 := Aside0.mk hi466_2
     have HC466_2 := Aside0.mk hl466_2
     clear hi466_2 hl466_2
     replace p466 := eq_true p466
     replace q466 := eq_true q466
     have ea_ := Option.some.inj (hx463_2.symm.trans hx466_2)
     injection ea_ with ea_ en_ ec_
     subst ea_
     subst ec_
     clear en_
     have p467 : 0 ≤ (x8_2 : Int) := of_decide_eq_true dq22
     have q467 : x8_2 < (l1.length : Int) := of_decide_eq_true dq22
     obtain ⟨ad467, e467, hx467_0⟩ := Kd.at_string HR1.out x8_2 p467 q467
     have hw467_0 := hx467_0
     cases e467
     replace hx467_0 := (HB.out.cell (World.block_lt_of_cell? w _ hx467_0)).trans hx467_0
     replace p467 := eq_true p467
     replace q467 := eq_true q467
     refine start_ (n := 24) (S := fun w' => w'.cell? (ad462.add (x10_3).toNat) = some (.int .i64 (rd x7_2 x10_3)) ∧ w'.cell? (ad463.add (((rd x7_2 x10_3)).toNat * 4)) = some (.int .i64 ((rd_T49 l0 (rd x7_2 x10_3)).f0)) ∧ w'.cell? ⟨(ad463.add (((rd x7_2 x10_3)).toNat * 4)).block, (ad463.add (((rd x7_2 x10_3)).toNat * 4)).off + 1, none⟩ = some (.string ((rd_T49 l0 (rd x7_2 x10_3)).f1)) ∧ w'.cell? ⟨(ad463.add (((rd x7_2 x10_3)).toNat * 4)).block, (ad463.add (((rd x7_2 x10_3)).toNat * 4)).off + 2, none⟩ = some (.slice A463_2 ((rd_T49 l0 (rd x7_2 x10_3)).f2).length c463_2) ∧ w'.cell? ⟨(ad463.add (((rd x7_2 x10_3)).toNat * 4)).block, (ad463.add (((rd x7_2 x10_3)).toNat * 4)).off + 3, none⟩ = some (.int .i64 ((rd_T49 l0 (rd x7_2 x10_3)).f3)) ∧ w'.cell? (ad462.add (x10_3).toNat) = some (.int .i64 (rd x7_2 x10_3)) ∧ w'.cell? (ad463.add (((rd x7_2 x10_3)).toNat * 4)) = some (.int .i64 ((rd_T49 l0 (rd x7_2 x10_3)).f0)) ∧ w'.cell? ⟨(ad463.add (((rd x7_2 x10_3)).toNat * 4)).block, (ad463.add (((rd x7_2 x10_3)).toNat * 4)).off + 1, none⟩ = some (.string ((rd_T49 l0 (rd x7_2 x10_3)).f1)) ∧ w'.cell? ⟨(ad463.add (((rd x7_2 x10_3)).toNat * 4)).block, (ad463.add (((rd x7_2 x10_3)).toNat * 4)).off + 2, none⟩ = some (.slice A463_2 ((rd_T49 l0 (rd x7_2 x10_3)).f2).length c463_2) ∧ w'.cell? ⟨(ad463.add (((rd x7_2 x10_3)).toNat * 4)).block, (ad463.add (((rd x7_2 x10_3)).toNat * 4)).off + 3, none⟩ = some (.int .i64 ((rd_T49 l0 (rd x7_2 x10_3)).f3)) ∧ w'.cell? (ad467.add (x8_2).toNat) = some (.string (rdOf ByteArray.empty l1 x8_2))) (ds := []) (bitsA 24 0) dq21 rfl rfl ⟨hx462_0, ((HB.out.cell (World.block_lt_of_cell? w _ hw463_0)).trans hw463_0), ((HB.out.cell (World.block_lt_of_cell? w _ hw463_1)).trans hw463_1), ((HB.out.cell (World.block_lt_of_cell? w _ hw463_2)).trans hw463_2), ((HB.out.cell (World.block_lt_of_cell? w _ hw463_3)).trans hw463_3), hx465_0, ((HB.out.cell (World.block_lt_of_cell? w _ hw466_0)).trans hw466_0), ((HB.out.cell (World.block_lt_of_cell? w _ hw466_1)).trans hw466_1), ((HB.out.cell (World.block_lt_of_cell? w _ hw466_2)).trans hw466_2), ((HB.out.cell (World.block_lt_of_cell? w _ hw466_3)).trans hw466_3), ((HB.out.cell (World.block_lt_of_cell? w _ hw467_0)).trans hw467_0)⟩ (fun hHeld => ?_); refine with_tabW spec_Attribute.tab12 spec_Attribute.bits12 (fun HT_ HW_ => ?_)
     generalize wr.drew = w25 at HO_6 HO_7 HB HR463_2 HR466_2 hx462_0 hx463_0 hx463_1 hx463_2 hx463_3 hx465_0 hx466_0 hx466_1 hx466_2 hx466_3 hx467_0 hHeld ⊢
     refine pureA (i := 0) (N := some 34) (bitsA 24 1) ?_
     refine pureA (i := 1) (N := some 35) (bitsA 24 3) ?_
     refine pureA (i := 2) (N := some 36) (bitsA 24 7) ?_
     refine pureA (i := 3) (N := some 37) (bitsA 24 15) ?_
     refine takeA11 (i := 4) (N := some 38) (bitsA 24 31) ?_
     refine pureA (i := 5) (N := some 39) (bitsA 24 63) ?_
     refine pureA (i := 6) (N := some 40) (bitsA 24 127) ?_
     refine takeA11 (i := 7) (N := some 41) (bitsA 24 255) ?_
     refine pureA (i := 8) (N := some 42) (bitsA 24 511) ?_
     refine pureA (i := 9) (N := some 43) (bitsA 24 1023) ?_
     refine pureA (i := 10) (N := some 44) (bitsA 24 2047) ?_
     refine pureA (i := 11) (N := some 45) (bitsA 24 4095) ?_
     refine pureA (i := 12) (N := some 46) (bitsA 24 8191) ?_
     refine pureA (i := 13) (N := some 47) (bitsA 24 16383) ?_
     refine pureA (i := 18) (N := some 52) (bitsA 24 278527) ?_
     refine pureA (i := 19) (N := some 53) (bitsA 24 802815) ?_
     refine pureA (i := 20) (N := some 54) (bitsA 24 1851391) ?_
     refine takeA11 (i := 14) (N := some 48) (bitsA 24 1867775) ?_
     refine pureA (i := 15) (N := some 49) (bitsA 24 1900543) ?_
     refine pureA (i := 16) (N := some 50) (bitsA 24 1966079) ?_
     refine takeA11 (i := 17) (N := some 51) (bitsA 24 2097151) ?_
     refine takeA11 (i := 21) (N := some 55) (bitsA 24 4194303) ?_
     refine pureA (i := 22) (N := some 56) (bitsA 24 8388607) ?_
     refine pureA (i := 23) (N := some 57) (bitsA 24 16777215) ?_
     refine done_ (done_of HT_.out dq21) ?_
     have p468 : 0 ≤ (x10_3 : Int) := of_decide_eq_true dq22
     have q468 : x10_3 < (x7_2.length : Int) := of_decide_eq_true dq22
     (try (obtain ⟨Aq_, cq_, eq_⟩ := Kd.R_slice HO_7.out; subst eq_))
     obtain ⟨ad468, e468, hx468_0⟩ := Kd.at_int (Kd.R_reads' HO_7.out).2.2 x10_3 p468 q468
     obtain rfl : ad462 = ad468 := (by injection e468)
     replace p468 := eq_true p468
     replace q468 := eq_true q468
     try go_wp2
     go_roundg k3
     case measure => have := HJ2.out; have := HK2.out; have := HK3.out; omega
     case rel => exact ⟨(rd x7_2 x10_3), (wrap64 (x10_3 + 1)), dq15, dq15, H', ⟨dq94⟩, ⟨dq93⟩, ⟨dq92⟩, ⟨dq17⟩⟩
   rw [if_neg c13] at H
   have c13b0 := decide_eq_false c13
   clear c13
   by_cases c35 : (l1.length : Int) = 0
   rotate_left
   ·rw [if_neg c35] at H
    have c35b0 := beq_eq_false_iff_ne.mpr c35
    have c35b1 := bne_iff_ne.mpr c35
    have c35b2 : ¬ (l1 = []) := fun h_ => c35 (by rw [h_]; rfl)
    by_cases c59 : (l1.length : Int) > 0
    rotate_left
    ·rw [if_neg c59] at H
     have c59b0 : decide (0 < (l1.length : Int)) = false := decide_eq_false c59
     have c59b1 : decide (0 < l1.length) = false := decide_eq_false dq25
     clear c59
     simp only [Option.some.injEq, Prod.mk.injEq] at H
     obtain ⟨rfl, rfl⟩ := H
     try go_wp2
     have n0_ := Aside0.mk (Kd.R_drew HO_6.out)
     have n1_ := Aside0.mk (Kd.R_drew HO_7.out)
     have n2_ := Aside0.mk (below_drew1 HB.out)
     clear HO_6
     clear HO_7
     clear HB
     have HO_6 := n0_
     have HO_7 := n1_
     have HB := n2_
     clear n0_ n1_ n2_
     refine start_ (n := 25) (S := fun w' => True) (ds := []) (bitsA 25 0) dq21 rfl rfl trivial (fun hHeld => ?_); refine with_tabW spec_Attribute.tab18 spec_Attribute.bits18 (fun HT_ HW_ => ?_)
     generalize wr.drew = w74 at HO_6 HO_7 HB hHeld ⊢
     refine pureA (i := 0) (N := some 71) (bitsA 25 1) ?_
     refine pureA (i := 1) (N := some 72) (bitsA 25 3) ?_
     refine pureA (i := 2) (N := some 73) (bitsA 25 7) ?_
     refine pureA (i := 3) (N := some 74) (bitsA 25 15) ?_
     refine pureN (i := 4) (N := some 75) (bitsA 25 31) ?_
     refine pureN (i := 5) (N := some 76) (bitsA 25 63) ?_
     refine pureN (i := 6) (N := some 77) (bitsA 25 127) ?_
     refine pureA (i := 7) (N := some 78) (bitsA 25 255) ?_
     refine pureA (i := 8) (N := some 79) (bitsA 25 511) ?_
     refine pureA (i := 9) (N := some 80) (bitsA 25 1023) ?_
     refine pureA (i := 10) (N := some 81) (bitsA 25 2047) ?_
     refine pureA (i := 11) (N := some 82) (bitsA 25 4095) ?_
     refine pureA (i := 12) (N := some 83) (bitsA 25 8191) ?_
     refine pureN (i := 13) (N := some 84) (bitsA 25 16383) ?_
     refine pureN (i := 14) (N := some 85) (bitsA 25 32767) ?_
     refine pureN (i := 15) (N := some 86) (bitsA 25 65535) ?_
     refine pureN (i := 16) (N := some 87) (bitsA 25 131071) ?_
     refine pureN (i := 17) (N := some 88) (bitsA 25 262143) ?_
     refine pureN (i := 18) (N := some 89) (bitsA 25 524287) ?_
     refine pureN (i := 19) (N := some 90) (bitsA 25 1048575) ?_
     refine pureN (i := 20) (N := some 91) (bitsA 25 2097151) ?_
     refine pureN (i := 21) (N := some 92) (bitsA 25 4194303) ?_
     refine pureN (i := 22) (N := some 93) (bitsA 25 8388607) ?_
     refine pureA (i := 23) (N := some 94) (bitsA 25 16777215) ?_
     refine pureA (i := 24) (N := some 95) (bitsA 25 33554431) ?_
     refine done_ (done_of HT_.out dq21) ?_
     try go_wp2
     go_ret2
     exact ⟨_, dq19, dq96, dq17⟩
    rw [if_pos c59] at H
    have c59b0 : decide (0 < (l1.length : Int)) = true := decide_eq_true c59
    have c59b1 : decide (0 < l1.length) = true := decide_eq_true dq25
    clear c59
    replace H := Option.bind_eq_some_iff.mp H
    obtain ⟨t481, A600, H⟩ := H
    replace H : (if 0 ≤ (wrap64 ((x6_2.length : Int) - 1)) then (if (wrap64 ((x6_2.length : Int) - 1)) < (x6_2.length : Int) then ((spec_l8Has.f k2 t481 (rd x6_2 (wrap64 ((x6_2.length : Int) - 1)))).bind fun t485 => (if t485 = true then (some (x6_2, true)) else (some (([] : List Int), false)))) else (none)) else (none)) = some (r1, r2) := H
    have A60 := Aside0.mk A600
    clear A600
    obtain ⟨ji61, hji61⟩ : ∃ j_ : Int, (wrap64 ((x6_2.length : Int) - 1)) = j_ := ⟨_, rfl⟩
    replace H : (if 0 ≤ (ji61) then (if (ji61) < (x6_2.length : Int) then ((spec_l8Has.f k2 t481 (rd x6_2 (ji61))).bind fun t485 => (if t485 = true then (some (x6_2, true)) else (some (([] : List Int), false)))) else (none)) else (none)) = some (r1, r2) := by first | (rw [hji61] at H; exact H) | (simp only [hji61] at H ⊢; exact H)
    (try rw [hji61] at A60)
    have hji61w : (IntKind.i64.wrap ((x6_2.length : Int) - 1)) = ji61 := (i64_w _).trans hji61
    by_cases c62 : 0 ≤ (ji61)
    rotate_left
    ·rw [if_neg c62] at H
     exact absurd H dq24
    rw [if_pos c62] at H
    have c62b0 := decide_eq_true c62
    clear c62
    by_cases c63 : (ji61) < (x6_2.length : Int)
    rotate_left
    ·rw [if_neg c63] at H
     exact absurd H dq24
    rw [if_pos c63] at H
    have c63b0 := decide_eq_true c63
    clear c63
    replace H := Option.bind_eq_some_iff.mp H
    obtain ⟨t485, A640, H⟩ := H
    replace H : (if t485 = true then (some (x6_2, true)) else (some (([] : List Int), false))) = some (r1, r2) := H
    have A64 := Aside0.mk A640
    clear A640
    by_cases c65 : t485 = true
    ·subst c65
     have H1 : (some (x6_2, true)) = some (r1, r2) := by rw [if_pos rfl] at H; exact H
     clear H
     have H := H1
     clear H1
     simp only [Option.some.injEq, Prod.mk.injEq] at H
     obtain ⟨rfl, rfl⟩ := H
     try go_wp2
     have n0_ := Aside0.mk (Kd.R_drew HO_6.out)
     have n1_ := Aside0.mk (Kd.R_drew HO_7.out)
     have n2_ := Aside0.mk (below_drew1 HB.out)
     clear HO_6
     clear HO_7
     clear HB
     have HO_6 := n0_
     have HO_7 := n1_
     have HB := n2_
     clear n0_ n1_ n2_
     obtain ⟨Ao67, co67, eo67⟩ := Kd.R_slice HO_6.out
     (first | subst eo67 | (injection eo67 with f1_ f2_ f3_; have f4_ := f1_.symm; have f5_ := f3_.symm; clear f1_ f2_ f3_; subst f4_; subst f5_))
     have p484 : 0 ≤ ((ji61) : Int) := of_decide_eq_true dq22
     have q484 : (ji61) < (x6_2.length : Int) := of_decide_eq_true dq22
     (try (obtain ⟨Aq_, cq_, eq_⟩ := Kd.R_slice HO_6.out; subst eq_))
     obtain ⟨ad484, e484, hx484_0⟩ := Kd.at_int (Kd.R_reads' HO_6.out).2.2 (ji61) p484 q484
     cases e484
     replace p484 := eq_true p484
     replace q484 := eq_true q484
     refine start_ (n := 25) (S := fun w' => w'.cell? (ad484.add ((ji61)).toNat) = some (.int .i64 (rd x6_2 (ji61)))) (ds := []) (bitsA 25 0) dq21 rfl rfl (hx484_0) (fun hHeld => ?_); refine with_tabW spec_Attribute.tab18 spec_Attribute.bits18 (fun HT_ HW_ => ?_)
     generalize wr.drew = w66 at HO_6 HO_7 HB hx484_0 hHeld ⊢
     refine pureA (i := 0) (N := some 71) (bitsA 25 1) ?_
     refine pureA (i := 1) (N := some 72) (bitsA 25 3) ?_
     refine pureA (i := 2) (N := some 73) (bitsA 25 7) ?_
     refine pureA (i := 3) (N := some 74) (bitsA 25 15) ?_
     refine pureN (i := 4) (N := some 75) (bitsA 25 31) ?_
     refine pureN (i := 5) (N := some 76) (bitsA 25 63) ?_
     refine pureN (i := 6) (N := some 77) (bitsA 25 127) ?_
     refine pureA (i := 7) (N := some 78) (bitsA 25 255) ?_
     refine pureA (i := 8) (N := some 79) (bitsA 25 511) ?_
     refine pureA (i := 9) (N := some 80) (bitsA 25 1023) ?_
     refine pureA (i := 10) (N := some 81) (bitsA 25 2047) ?_
     refine pureA (i := 11) (N := some 82) (bitsA 25 4095) ?_
     refine pureA (i := 12) (N := some 83) (bitsA 25 8191) ?_
     refine pureA (i := 13) (N := some 84) (bitsA 25 16383) ?_
     refine pureA (i := 15) (N := some 86) (bitsA 25 49151) ?_
     refine pureA (i := 16) (N := some 87) (bitsA 25 114687) ?_
     refine pureA (i := 17) (N := some 88) (bitsA 25 245759) ?_
     refine pureA (i := 18) (N := some 89) (bitsA 25 507903) ?_
     refine pureA (i := 19) (N := some 90) (bitsA 25 1032191) ?_
     refine take_ (i := 20) (N := some 91) (v := ?_) (a' := ?_) (bitsA 25 2080767) rfl rfl (take_ofW HT_.out HW_.out dq21) (fun _ _ _ h => h) (Or.inl ⟨by rfl, ?_⟩) hHeld ?_ ?_
     rotate_left
     ·intro w' s0
      go_simp
      with_reducible rfl
     rotate_left
     ·exact dAct
     refine one_ (i := 14) (N := some 85) (bitsA 25 2097151) rfl rfl (one_of HT_.out dq21) dq26 (fun K hK => ?_)
     refine goes_ Try.func18 dq21 rfl #[.slice A0 l0.length c0] (by rfl) rfl rfl dq20 ?_
     with_reducible refine (spec_LastOf.calls k2 _ _ l0 t481 _ ?side1 ?side2 A60.out).mono ?_
     (case side1 => exact dq5)
     (case side2 => exact dq4)
     rintro e w68 ⟨v482, rfl, ho0, hb⟩
     have HS0_ := (hb.cell (World.block_lt_of_cell? _ _ (hHeld))).trans (hHeld)
     refine ⟨_, rfl, ?_⟩
     have n0_ := Aside0.mk (Kd.R_elder' dq93 (Kd.R_base ho0) hb)
     have n1_ := Aside0.mk (Kd.R_elder' dq92 (Kd.R_base ho0) hb)
     have n2_ := Aside0.mk (Kd.R_lower (Kd.R_new' (Kd.R_new' ho0 (Kd.R_lt dq93)) (Kd.R_lt dq92)) (below_size dq17))
     have n3_ := Aside0.mk (below_step dq17 hb)
     clear HO_6
     clear HO_7
     clear HB
     have HO_6 := n0_
     have HO_7 := n1_
     have HO483 := n2_
     have HB := n3_
     clear n0_ n1_ n2_ n3_
     (try clear hb)
     (try clear hb2)
     (try clear hk)
     (try clear hi)
     (try clear ho0)
     obtain ⟨Ao69, co69, eo69⟩ := Kd.R_slice HO483.out
     (first | subst eo69 | (injection eo69 with f1_ f2_ f3_; have f4_ := f1_.symm; have f5_ := f3_.symm; clear f1_ f2_ f3_; subst f4_; subst f5_))
     refine hK.out _ _ (HS0_) (fun hHeld => ?_)
     clear hK K
     refine norm_ (a' := ?_) ?_ ?_
     rotate_left
     ·show Act.put _ (some 85) _ = _
      simp only [Act.put, List.setIfInBounds_toArray, List.set_cons_zero, List.set_cons_succ, i64_w, i32_w]
      rfl
     refine one_ (i := 21) (N := some 92) (bitsA 25 4194303) rfl rfl (one_of HT_.out dq21) dq26 (fun K hK => ?_)
     refine goes_ Try.func52 dq21 rfl #[.slice Ao69 t481.length co69, .int .i64 (rd x6_2 (ji61))] (by rfl) rfl rfl dq98 ?_
     with_reducible refine (spec_l8Has.calls k2 _ _ t481 (rd x6_2 (ji61)) true _ ?side1 ?side2 A64.out).mono ?_
     (case side1 => repeat (first | exact (Kd.R_reads' HO483.out).2.2 | (with_reducible refine Kd.C_alloc ?_ _) | (with_reducible refine Kd.C_drewN ?_ _) | (with_reducible refine Kd.C_drew ?_)))
     (case side2 => exact (Kd.R_reads' HO483.out).2.1)
     rintro e w' ⟨rfl, ⟨nd, rfl⟩⟩
     refine ⟨_, rfl, ?_⟩
     refine hK.out _ _ (hHeld) (fun hHeld => ?_)
     clear hK K
     refine norm_ (a' := ?_) ?_ ?_
     rotate_left
     ·show Act.put _ (some 92) _ = _
      simp only [Act.put, List.setIfInBounds_toArray, List.set_cons_zero, List.set_cons_succ, i64_w, i32_w]
      rfl
     refine pureA (i := 22) (N := some 93) (bitsA 25 8388607) ?_
     refine pureA (i := 23) (N := some 94) (bitsA 25 16777215) ?_
     refine pureA (i := 24) (N := some 95) (bitsA 25 33554431) ?_
     refine done_ (done_of HT_.out dq21) ?_
     try go_wp2
     go_ret2
     exact ⟨_, dq99, dq96, dq17⟩
    replace c65 := Bool.eq_false_iff.mpr c65
    subst c65
    have H1 : (some (([] : List Int), false)) = some (r1, r2) := by rw [if_neg (show ¬ (false = true) by decide)] at H; exact H
    clear H
    have H := H1
    clear H1
    simp only [Option.some.injEq, Prod.mk.injEq] at H
    obtain ⟨rfl, rfl⟩ := H
    try go_wp2
    have n0_ := Aside0.mk (Kd.R_drew HO_6.out)
    have n1_ := Aside0.mk (Kd.R_drew HO_7.out)
    have n2_ := Aside0.mk (below_drew1 HB.out)
    clear HO_6
    clear HO_7
    clear HB
    have HO_6 := n0_
    have HO_7 := n1_
    have HB := n2_
    clear n0_ n1_ n2_
    obtain ⟨Ao71, co71, eo71⟩ := Kd.R_slice HO_6.out
    (first | subst eo71 | (injection eo71 with f1_ f2_ f3_; have f4_ := f1_.symm; have f5_ := f3_.symm; clear f1_ f2_ f3_; subst f4_; subst f5_))
    have p484 : 0 ≤ ((ji61) : Int) := of_decide_eq_true dq22
    have q484 : (ji61) < (x6_2.length : Int) := of_decide_eq_true dq22
    (try (obtain ⟨Aq_, cq_, eq_⟩ := Kd.R_slice HO_6.out; subst eq_))
    obtain ⟨ad484, e484, hx484_0⟩ := Kd.at_int (Kd.R_reads' HO_6.out).2.2 (ji61) p484 q484
    cases e484
    replace p484 := eq_true p484
    replace q484 := eq_true q484
    refine start_ (n := 25) (S := fun w' => w'.cell? (ad484.add ((ji61)).toNat) = some (.int .i64 (rd x6_2 (ji61)))) (ds := []) (bitsA 25 0) dq21 rfl rfl (hx484_0) (fun hHeld => ?_); refine with_tabW spec_Attribute.tab18 spec_Attribute.bits18 (fun HT_ HW_ => ?_)
    generalize wr.drew = w70 at HO_6 HO_7 HB hx484_0 hHeld ⊢
    refine pureA (i := 0) (N := some 71) (bitsA 25 1) ?_
    refine pureA (i := 1) (N := some 72) (bitsA 25 3) ?_
    refine pureA (i := 2) (N := some 73) (bitsA 25 7) ?_
    refine pureA (i := 3) (N := some 74) (bitsA 25 15) ?_
    refine pureN (i := 4) (N := some 75) (bitsA 25 31) ?_
    refine pureN (i := 5) (N := some 76) (bitsA 25 63) ?_
    refine pureN (i := 6) (N := some 77) (bitsA 25 127) ?_
    refine pureA (i := 7) (N := some 78) (bitsA 25 255) ?_
    refine pureA (i := 8) (N := some 79) (bitsA 25 511) ?_
    refine pureA (i := 9) (N := some 80) (bitsA 25 1023) ?_
    refine pureA (i := 10) (N := some 81) (bitsA 25 2047) ?_
    refine pureA (i := 11) (N := some 82) (bitsA 25 4095) ?_
    refine pureA (i := 12) (N := some 83) (bitsA 25 8191) ?_
    refine pureA (i := 13) (N := some 84) (bitsA 25 16383) ?_
    refine pureA (i := 15) (N := some 86) (bitsA 25 49151) ?_
    refine pureA (i := 16) (N := some 87) (bitsA 25 114687) ?_
    refine pureA (i := 17) (N := some 88) (bitsA 25 245759) ?_
    refine pureA (i := 18) (N := some 89) (bitsA 25 507903) ?_
    refine pureA (i := 19) (N := some 90) (bitsA 25 1032191) ?_
    refine take_ (i := 20) (N := some 91) (v := ?_) (a' := ?_) (bitsA 25 2080767) rfl rfl (take_ofW HT_.out HW_.out dq21) (fun _ _ _ h => h) (Or.inl ⟨by rfl, ?_⟩) hHeld ?_ ?_
    rotate_left
    ·intro w' s0
     go_simp
     with_reducible rfl
    rotate_left
    ·exact dAct
    refine one_ (i := 14) (N := some 85) (bitsA 25 2097151) rfl rfl (one_of HT_.out dq21) dq26 (fun K hK => ?_)
    refine goes_ Try.func18 dq21 rfl #[.slice A0 l0.length c0] (by rfl) rfl rfl dq20 ?_
    with_reducible refine (spec_LastOf.calls k2 _ _ l0 t481 _ ?side1 ?side2 A60.out).mono ?_
    (case side1 => exact dq5)
    (case side2 => exact dq4)
    rintro e w72 ⟨v482, rfl, ho0, hb⟩
    have HS0_ := (hb.cell (World.block_lt_of_cell? _ _ (hHeld))).trans (hHeld)
    refine ⟨_, rfl, ?_⟩
    have n0_ := Aside0.mk (Kd.R_elder' dq93 (Kd.R_base ho0) hb)
    have n1_ := Aside0.mk (Kd.R_elder' dq92 (Kd.R_base ho0) hb)
    have n2_ := Aside0.mk (Kd.R_lower (Kd.R_new' (Kd.R_new' ho0 (Kd.R_lt dq93)) (Kd.R_lt dq92)) (below_size dq17))
    have n3_ := Aside0.mk (below_step dq17 hb)
    clear HO_6
    clear HO_7
    clear HB
    have HO_6 := n0_
    have HO_7 := n1_
    have HO483 := n2_
    have HB := n3_
    clear n0_ n1_ n2_ n3_
    (try clear hb)
    (try clear hb2)
    (try clear hk)
    (try clear hi)
    (try clear ho0)
    obtain ⟨Ao73, co73, eo73⟩ := Kd.R_slice HO483.out
    (first | subst eo73 | (injection eo73 with f1_ f2_ f3_; have f4_ := f1_.symm; have f5_ := f3_.symm; clear f1_ f2_ f3_; subst f4_; subst f5_))
    refine hK.out _ _ (HS0_) (fun hHeld => ?_)
    clear hK K
    refine norm_ (a' := ?_) ?_ ?_
    rotate_left
    ·show Act.put _ (some 85) _ = _
     simp only [Act.put, List.setIfInBounds_toArray, List.set_cons_zero, List.set_cons_succ, i64_w, i32_w]
     rfl
    refine one_ (i := 21) (N := some 92) (bitsA 25 4194303) rfl rfl (one_of HT_.out dq21) dq26 (fun K hK => ?_)
    refine goes_ Try.func52 dq21 rfl #[.slice Ao73 t481.length co73, .int .i64 (rd x6_2 (ji61))] (by rfl) rfl rfl dq98 ?_
    with_reducible refine (spec_l8Has.calls k2 _ _ t481 (rd x6_2 (ji61)) false _ ?side1 ?side2 A64.out).mono ?_
    (case side1 => repeat (first | exact (Kd.R_reads' HO483.out).2.2 | (with_reducible refine Kd.C_alloc ?_ _) | (with_reducible refine Kd.C_drewN ?_ _) | (with_reducible refine Kd.C_drew ?_)))
    (case side2 => exact (Kd.R_reads' HO483.out).2.1)
    rintro e w' ⟨rfl, ⟨nd, rfl⟩⟩
    refine ⟨_, rfl, ?_⟩
    refine hK.out _ _ (hHeld) (fun hHeld => ?_)
    clear hK K
    refine norm_ (a' := ?_) ?_ ?_
    rotate_left
    ·show Act.put _ (some 92) _ = _
     simp only [Act.put, List.setIfInBounds_toArray, List.set_cons_zero, List.set_cons_succ, i64_w, i32_w]
     rfl
    refine pureA (i := 22) (N := some 93) (bitsA 25 8388607) ?_
    refine pureA (i := 23) (N := some 94) (bitsA 25 16777215) ?_
    refine pureA (i := 24) (N := some 95) (bitsA 25 33554431) ?_
    refine done_ (done_of HT_.out dq21) ?_
    try go_wp2
    go_ret2
    exact ⟨_, dq99, dq91, dq17⟩
   rw [if_pos c35] at H
   have c35b0 := beq_iff_eq.mpr c35
   have c35b1 := bne_eq_false_iff_eq.mpr c35
   clear c35
   replace H := Option.bind_eq_some_iff.mp H
   obtain ⟨t475, A360, H⟩ := H
   replace H : (if t475 = true then (if (l1.length : Int) > 0 then ((spec_LastOf.f k2 l0).bind fun t476 => (if 0 ≤ (wrap64 ((x6_2.length : Int) - 1)) then (if (wrap64 ((x6_2.length : Int) - 1)) < (x6_2.length : Int) then ((spec_l8Has.f k2 t476 (rd x6_2 (wrap64 ((x6_2.length : Int) - 1)))).bind fun t480 => (if t480 = true then (some (x6_2, true)) else (some (([] : List Int), false)))) else (none)) else (none))) else (some (x6_2, true))) else (some (([] : List Int), false))) = some (r1, r2) := H
   have A36 := Aside0.mk A360
   clear A360
   by_cases c37 : t475 = true
   rotate_left
   ·replace c37 := Bool.eq_false_iff.mpr c37
    subst c37
    have H1 : (some (([] : List Int), false)) = some (r1, r2) := by rw [if_neg (show ¬ (false = true) by decide)] at H; exact H
    clear H
    have H := H1
    clear H1
    simp only [Option.some.injEq, Prod.mk.injEq] at H
    obtain ⟨rfl, rfl⟩ := H
    try go_wp2
    have n0_ := Aside0.mk (Kd.R_drew HO_6.out)
    have n1_ := Aside0.mk (Kd.R_drew HO_7.out)
    have n2_ := Aside0.mk (below_drew1 HB.out)
    clear HO_6
    clear HO_7
    clear HB
    have HO_6 := n0_
    have HO_7 := n1_
    have HB := n2_
    clear n0_ n1_ n2_
    refine start_ (n := 25) (S := fun w' => True) (ds := []) (bitsA 25 0) dq21 rfl rfl trivial (fun hHeld => ?_); refine with_tabW spec_Attribute.tab18 spec_Attribute.bits18 (fun HT_ HW_ => ?_)
    generalize wr.drew = w57 at HO_6 HO_7 HB hHeld ⊢
    refine pureA (i := 0) (N := some 71) (bitsA 25 1) ?_
    refine pureA (i := 1) (N := some 72) (bitsA 25 3) ?_
    refine pureA (i := 2) (N := some 73) (bitsA 25 7) ?_
    refine pureA (i := 3) (N := some 74) (bitsA 25 15) ?_
    refine pureA (i := 4) (N := some 75) (bitsA 25 31) ?_
    refine one_ (i := 5) (N := some 76) (bitsA 25 63) rfl rfl (one_of HT_.out dq21) dq26 (fun K hK => ?_)
    refine goes_ Try.func51 dq21 rfl #[.slice A0 l0.length c0] (by rfl) rfl rfl dq20 ?_
    with_reducible refine (spec_Nullable.calls k2 _ _ l0 false _ ?side1 ?side2 A36.out).mono ?_
    (case side1 => exact dq5)
    (case side2 => exact dq4)
    rintro e w58 ⟨rfl, hb⟩
    refine ⟨_, rfl, ?_⟩
    have n0_ := Aside0.mk (Kd.R_below dq93 hb)
    have n1_ := Aside0.mk (Kd.R_below dq92 hb)
    have n2_ := Aside0.mk (below_step dq17 hb)
    clear HO_6
    clear HO_7
    clear HB
    have HO_6 := n0_
    have HO_7 := n1_
    have HB := n2_
    clear n0_ n1_ n2_
    (try clear hb)
    (try clear hb2)
    (try clear hk)
    (try clear hi)
    refine hK.out _ _ trivial (fun hHeld => ?_)
    clear hK K
    refine norm_ (a' := ?_) ?_ ?_
    rotate_left
    ·show Act.put _ (some 76) _ = _
     simp only [Act.put, List.setIfInBounds_toArray, List.set_cons_zero, List.set_cons_succ, i64_w, i32_w]
     rfl
    refine pureA (i := 6) (N := some 77) (bitsA 25 127) ?_
    refine pureA (i := 7) (N := some 78) (bitsA 25 255) ?_
    refine pureA (i := 8) (N := some 79) (bitsA 25 511) ?_
    refine pureN (i := 9) (N := some 80) (bitsA 25 1023) ?_
    refine pureN (i := 10) (N := some 81) (bitsA 25 2047) ?_
    refine pureN (i := 11) (N := some 82) (bitsA 25 4095) ?_
    refine pureN (i := 12) (N := some 83) (bitsA 25 8191) ?_
    refine pureN (i := 13) (N := some 84) (bitsA 25 16383) ?_
    refine pureN (i := 14) (N := some 85) (bitsA 25 32767) ?_
    refine pureN (i := 15) (N := some 86) (bitsA 25 65535) ?_
    refine pureN (i := 16) (N := some 87) (bitsA 25 131071) ?_
    refine pureN (i := 17) (N := some 88) (bitsA 25 262143) ?_
    refine pureN (i := 18) (N := some 89) (bitsA 25 524287) ?_
    refine pureN (i := 19) (N := some 90) (bitsA 25 1048575) ?_
    refine pureN (i := 20) (N := some 91) (bitsA 25 2097151) ?_
    refine pureN (i := 21) (N := some 92) (bitsA 25 4194303) ?_
    refine pureN (i := 22) (N := some 93) (bitsA 25 8388607) ?_
    refine pureN (i := 23) (N := some 94) (bitsA 25 16777215) ?_
    refine pureA (i := 24) (N := some 95) (bitsA 25 33554431) ?_
    refine done_ (done_of HT_.out dq21) ?_
    try go_wp2
    go_ret2
    exact ⟨_, dq19, dq91, dq17⟩
   subst c37
   have H1 : (if (l1.length : Int) > 0 then ((spec_LastOf.f k2 l0).bind fun t476 => (if 0 ≤ (wrap64 ((x6_2.length : Int) - 1)) then (if (wrap64 ((x6_2.length : Int) - 1)) < (x6_2.length : Int) then ((spec_l8Has.f k2 t476 (rd x6_2 (wrap64 ((x6_2.length : Int) - 1)))).bind fun t480 => (if t480 = true then (some (x6_2, true)) else (some (([] : List Int), false)))) else (none)) else (none))) else (some (x6_2, true))) = some (r1, r2) := by rw [if_pos rfl] at H; exact H
   clear H
   have H := H1
   clear H1
   by_cases c38 : (l1.length : Int) > 0
   rotate_left
   ·rw [if_neg c38] at H
    have c38b0 : decide (0 < (l1.length : Int)) = false := decide_eq_false c38
    have c38b1 : decide (0 < l1.length) = false := decide_eq_false dq25
    clear c38
    simp only [Option.some.injEq, Prod.mk.injEq] at H
    obtain ⟨rfl, rfl⟩ := H
    try go_wp2
    have n0_ := Aside0.mk (Kd.R_drew HO_6.out)
    have n1_ := Aside0.mk (Kd.R_drew HO_7.out)
    have n2_ := Aside0.mk (below_drew1 HB.out)
    clear HO_6
    clear HO_7
    clear HB
    have HO_6 := n0_
    have HO_7 := n1_
    have HB := n2_
    clear n0_ n1_ n2_
    refine start_ (n := 25) (S := fun w' => True) (ds := []) (bitsA 25 0) dq21 rfl rfl trivial (fun hHeld => ?_); refine with_tabW spec_Attribute.tab18 spec_Attribute.bits18 (fun HT_ HW_ => ?_)
    generalize wr.drew = w55 at HO_6 HO_7 HB hHeld ⊢
    refine pureA (i := 0) (N := some 71) (bitsA 25 1) ?_
    refine pureA (i := 1) (N := some 72) (bitsA 25 3) ?_
    refine pureA (i := 2) (N := some 73) (bitsA 25 7) ?_
    refine pureA (i := 3) (N := some 74) (bitsA 25 15) ?_
    refine pureA (i := 4) (N := some 75) (bitsA 25 31) ?_
    refine one_ (i := 5) (N := some 76) (bitsA 25 63) rfl rfl (one_of HT_.out dq21) dq26 (fun K hK => ?_)
    refine goes_ Try.func51 dq21 rfl #[.slice A0 l0.length c0] (by rfl) rfl rfl dq20 ?_
    with_reducible refine (spec_Nullable.calls k2 _ _ l0 true _ ?side1 ?side2 A36.out).mono ?_
    (case side1 => exact dq5)
    (case side2 => exact dq4)
    rintro e w56 ⟨rfl, hb⟩
    refine ⟨_, rfl, ?_⟩
    have n0_ := Aside0.mk (Kd.R_below dq93 hb)
    have n1_ := Aside0.mk (Kd.R_below dq92 hb)
    have n2_ := Aside0.mk (below_step dq17 hb)
    clear HO_6
    clear HO_7
    clear HB
    have HO_6 := n0_
    have HO_7 := n1_
    have HB := n2_
    clear n0_ n1_ n2_
    (try clear hb)
    (try clear hb2)
    (try clear hk)
    (try clear hi)
    refine hK.out _ _ trivial (fun hHeld => ?_)
    clear hK K
    refine norm_ (a' := ?_) ?_ ?_
    rotate_left
    ·show Act.put _ (some 76) _ = _
     simp only [Act.put, List.setIfInBounds_toArray, List.set_cons_zero, List.set_cons_succ, i64_w, i32_w]
     rfl
    refine pureA (i := 6) (N := some 77) (bitsA 25 127) ?_
    refine pureA (i := 7) (N := some 78) (bitsA 25 255) ?_
    refine pureA (i := 8) (N := some 79) (bitsA 25 511) ?_
    refine pureA (i := 9) (N := some 80) (bitsA 25 1023) ?_
    refine pureA (i := 10) (N := some 81) (bitsA 25 2047) ?_
    refine pureA (i := 11) (N := some 82) (bitsA 25 4095) ?_
    refine pureA (i := 12) (N := some 83) (bitsA 25 8191) ?_
    refine pureN (i := 13) (N := some 84) (bitsA 25 16383) ?_
    refine pureN (i := 14) (N := some 85) (bitsA 25 32767) ?_
    refine pureN (i := 15) (N := some 86) (bitsA 25 65535) ?_
    refine pureN (i := 16) (N := some 87) (bitsA 25 131071) ?_
    refine pureN (i := 17) (N := some 88) (bitsA 25 262143) ?_
    refine pureN (i := 18) (N := some 89) (bitsA 25 524287) ?_
    refine pureN (i := 19) (N := some 90) (bitsA 25 1048575) ?_
    refine pureN (i := 20) (N := some 91) (bitsA 25 2097151) ?_
    refine pureN (i := 21) (N := some 92) (bitsA 25 4194303) ?_
    refine pureN (i := 22) (N := some 93) (bitsA 25 8388607) ?_
    refine pureA (i := 23) (N := some 94) (bitsA 25 16777215) ?_
    refine pureA (i := 24) (N := some 95) (bitsA 25 33554431) ?_
    refine done_ (done_of HT_.out dq21) ?_
    try go_wp2
    go_ret2
    exact ⟨_, dq19, dq96, dq17⟩
   rw [if_pos c38] at H
   have c38b0 : decide (0 < (l1.length : Int)) = true := decide_eq_true c38
   have c38b1 : decide (0 < l1.length) = true := decide_eq_true dq25
   clear c38
   replace H := Option.bind_eq_some_iff.mp H
   obtain ⟨t476, A390, H⟩ := H
   replace H : (if 0 ≤ (wrap64 ((x6_2.length : Int) - 1)) then (if (wrap64 ((x6_2.length : Int) - 1)) < (x6_2.length : Int) then ((spec_l8Has.f k2 t476 (rd x6_2 (wrap64 ((x6_2.length : Int) - 1)))).bind fun t480 => (if t480 = true then (some (x6_2, true)) else (some (([] : List Int), false)))) else (none)) else (none)) = some (r1, r2) := H
   have A39 := Aside0.mk A390
   clear A390
   obtain ⟨ji40, hji40⟩ : ∃ j_ : Int, (wrap64 ((x6_2.length : Int) - 1)) = j_ := ⟨_, rfl⟩
   replace H : (if 0 ≤ (ji40) then (if (ji40) < (x6_2.length : Int) then ((spec_l8Has.f k2 t476 (rd x6_2 (ji40))).bind fun t480 => (if t480 = true then (some (x6_2, true)) else (some (([] : List Int), false)))) else (none)) else (none)) = some (r1, r2) := by first | (rw [hji40] at H; exact H) | (simp only [hji40] at H ⊢; exact H)
   (try rw [hji40] at A36)
   (try rw [hji40] at A39)
   have hji40w : (IntKind.i64.wrap ((x6_2.length : Int) - 1)) = ji40 := (i64_w _).trans hji40
   by_cases c41 : 0 ≤ (ji40)
   rotate_left
   ·rw [if_neg c41] at H
    exact absurd H dq24
   rw [if_pos c41] at H
   have c41b0 := decide_eq_true c41
   clear c41
   by_cases c42 : (ji40) < (x6_2.length : Int)
   rotate_left
   ·rw [if_neg c42] at H
    exact absurd H dq24
   rw [if_pos c42] at H
   have c42b0 := decide_eq_true c42
   clear c42
   replace H := Option.bind_eq_some_iff.mp H
   obtain ⟨t480, A430, H⟩ := H
   replace H : (if t480 = true then (some (x6_2, true)) else (some (([] : List Int), false))) = some (r1, r2) := H
   have A43 := Aside0.mk A430
   clear A430
   by_cases c44 : t480 = true
   ·subst c44
    have H1 : (some (x6_2, true)) = some (r1, r2) := by rw [if_pos rfl] at H; exact H
    clear H
    have H := H1
    clear H1
    simp only [Option.some.injEq, Prod.mk.injEq] at H
    obtain ⟨rfl, rfl⟩ := H
    try go_wp2
    have n0_ := Aside0.mk (Kd.R_drew HO_6.out)
    have n1_ := Aside0.mk (Kd.R_drew HO_7.out)
    have n2_ := Aside0.mk (below_drew1 HB.out)
    clear HO_6
    clear HO_7
    clear HB
    have HO_6 := n0_
    have HO_7 := n1_
    have HB := n2_
    clear n0_ n1_ n2_
    have p479 : 0 ≤ ((ji40) : Int) := of_decide_eq_true dq22
    have q479 : (ji40) < (x6_2.length : Int) := of_decide_eq_true dq22
    (try (obtain ⟨Aq_, cq_, eq_⟩ := Kd.R_slice HO_6.out; subst eq_))
    obtain ⟨ad479, e479, hx479_0⟩ := Kd.at_int (Kd.R_reads' HO_6.out).2.2 (ji40) p479 q479
    cases e479
    replace p479 := eq_true p479
    replace q479 := eq_true q479
    refine start_ (n := 25) (S := fun w' => w'.cell? (ad479.add ((ji40)).toNat) = some (.int .i64 (rd x6_2 (ji40)))) (ds := []) (bitsA 25 0) dq21 rfl rfl (hx479_0) (fun hHeld => ?_); refine with_tabW spec_Attribute.tab18 spec_Attribute.bits18 (fun HT_ HW_ => ?_)
    generalize wr.drew = w45 at HO_6 HO_7 HB hx479_0 hHeld ⊢
    refine pureA (i := 0) (N := some 71) (bitsA 25 1) ?_
    refine pureA (i := 1) (N := some 72) (bitsA 25 3) ?_
    refine pureA (i := 2) (N := some 73) (bitsA 25 7) ?_
    refine pureA (i := 3) (N := some 74) (bitsA 25 15) ?_
    refine pureA (i := 4) (N := some 75) (bitsA 25 31) ?_
    refine one_ (i := 5) (N := some 76) (bitsA 25 63) rfl rfl (one_of HT_.out dq21) dq26 (fun K hK => ?_)
    refine goes_ Try.func51 dq21 rfl #[.slice A0 l0.length c0] (by rfl) rfl rfl dq20 ?_
    with_reducible refine (spec_Nullable.calls k2 _ _ l0 true _ ?side1 ?side2 A36.out).mono ?_
    (case side1 => exact dq5)
    (case side2 => exact dq4)
    rintro e w46 ⟨rfl, hb⟩
    have HS0_ := (hb.cell (World.block_lt_of_cell? _ _ (hHeld))).trans (hHeld)
    refine ⟨_, rfl, ?_⟩
    have n0_ := Aside0.mk (Kd.R_below dq93 hb)
    have n1_ := Aside0.mk (Kd.R_below dq92 hb)
    have n2_ := Aside0.mk (below_step dq17 hb)
    clear HO_6
    clear HO_7
    clear HB
    have HO_6 := n0_
    have HO_7 := n1_
    have HB := n2_
    clear n0_ n1_ n2_
    (try clear hb)
    (try clear hb2)
    (try clear hk)
    (try clear hi)
    refine hK.out _ _ (HS0_) (fun hHeld => ?_)
    clear hK K
    refine norm_ (a' := ?_) ?_ ?_
    rotate_left
    ·show Act.put _ (some 76) _ = _
     simp only [Act.put, List.setIfInBounds_toArray, List.set_cons_zero, List.set_cons_succ, i64_w, i32_w]
     rfl
    refine pureA (i := 6) (N := some 77) (bitsA 25 127) ?_
    refine pureA (i := 7) (N := some 78) (bitsA 25 255) ?_
    refine pureA (i := 8) (N := some 79) (bitsA 25 511) ?_
    refine pureA (i := 9) (N := some 80) (bitsA 25 1023) ?_
    refine pureA (i := 10) (N := some 81) (bitsA 25 2047) ?_
    refine pureA (i := 11) (N := some 82) (bitsA 25 4095) ?_
    refine pureA (i := 12) (N := some 83) (bitsA 25 8191) ?_
    refine pureA (i := 13) (N := some 84) (bitsA 25 16383) ?_
    refine pureA (i := 15) (N := some 86) (bitsA 25 49151) ?_
    refine pureA (i := 16) (N := some 87) (bitsA 25 114687) ?_
    refine pureA (i := 17) (N := some 88) (bitsA 25 245759) ?_
    refine pureA (i := 18) (N := some 89) (bitsA 25 507903) ?_
    refine pureA (i := 19) (N := some 90) (bitsA 25 1032191) ?_
    refine take_ (i := 20) (N := some 91) (v := ?_) (a' := ?_) (bitsA 25 2080767) rfl rfl (take_ofW HT_.out HW_.out dq21) (fun _ _ _ h => h) (Or.inl ⟨by rfl, ?_⟩) hHeld ?_ ?_
    rotate_left
    ·intro w' s0
     go_simp
     with_reducible rfl
    rotate_left
    ·exact dAct
    refine one_ (i := 14) (N := some 85) (bitsA 25 2097151) rfl rfl (one_of HT_.out dq21) dq26 (fun K hK => ?_)
    refine goes_ Try.func18 dq21 rfl #[.slice A0 l0.length c0] (by rfl) rfl rfl dq20 ?_
    with_reducible refine (spec_LastOf.calls k2 _ _ l0 t476 _ ?side1 ?side2 A39.out).mono ?_
    (case side1 => exact dq5)
    (case side2 => exact dq4)
    rintro e w47 ⟨v477, rfl, ho0, hb⟩
    have HS0_ := (hb.cell (World.block_lt_of_cell? _ _ (hHeld))).trans (hHeld)
    refine ⟨_, rfl, ?_⟩
    have n0_ := Aside0.mk (Kd.R_elder' dq93 (Kd.R_base ho0) hb)
    have n1_ := Aside0.mk (Kd.R_elder' dq92 (Kd.R_base ho0) hb)
    have n2_ := Aside0.mk (Kd.R_lower (Kd.R_new' (Kd.R_new' ho0 (Kd.R_lt dq93)) (Kd.R_lt dq92)) (below_size dq17))
    have n3_ := Aside0.mk (below_step dq17 hb)
    clear HO_6
    clear HO_7
    clear HB
    have HO_6 := n0_
    have HO_7 := n1_
    have HO478 := n2_
    have HB := n3_
    clear n0_ n1_ n2_ n3_
    (try clear hb)
    (try clear hb2)
    (try clear hk)
    (try clear hi)
    (try clear ho0)
    obtain ⟨Ao48, co48, eo48⟩ := Kd.R_slice HO_6.out
    (first | subst eo48 | (injection eo48 with f1_ f2_ f3_; have f4_ := f1_.symm; have f5_ := f3_.symm; clear f1_ f2_ f3_; subst f4_; subst f5_))
    obtain ⟨Ao49, co49, eo49⟩ := Kd.R_slice HO478.out
    (first | subst eo49 | (injection eo49 with f1_ f2_ f3_; have f4_ := f1_.symm; have f5_ := f3_.symm; clear f1_ f2_ f3_; subst f4_; subst f5_))
    refine hK.out _ _ (HS0_) (fun hHeld => ?_)
    clear hK K
    refine norm_ (a' := ?_) ?_ ?_
    rotate_left
    ·show Act.put _ (some 85) _ = _
     simp only [Act.put, List.setIfInBounds_toArray, List.set_cons_zero, List.set_cons_succ, i64_w, i32_w]
     rfl
    refine one_ (i := 21) (N := some 92) (bitsA 25 4194303) rfl rfl (one_of HT_.out dq21) dq26 (fun K hK => ?_)
    refine goes_ Try.func52 dq21 rfl #[.slice Ao49 t476.length co49, .int .i64 (rd x6_2 (ji40))] (by rfl) rfl rfl dq95 ?_
    with_reducible refine (spec_l8Has.calls k2 _ _ t476 (rd x6_2 (ji40)) true _ ?side1 ?side2 A43.out).mono ?_
    (case side1 => repeat (first | exact (Kd.R_reads' HO478.out).2.2 | (with_reducible refine Kd.C_alloc ?_ _) | (with_reducible refine Kd.C_drewN ?_ _) | (with_reducible refine Kd.C_drew ?_)))
    (case side2 => exact (Kd.R_reads' HO478.out).2.1)
    rintro e w' ⟨rfl, ⟨nd, rfl⟩⟩
    refine ⟨_, rfl, ?_⟩
    refine hK.out _ _ (hHeld) (fun hHeld => ?_)
    clear hK K
    refine norm_ (a' := ?_) ?_ ?_
    rotate_left
    ·show Act.put _ (some 92) _ = _
     simp only [Act.put, List.setIfInBounds_toArray, List.set_cons_zero, List.set_cons_succ, i64_w, i32_w]
     rfl
    refine pureA (i := 22) (N := some 93) (bitsA 25 8388607) ?_
    refine pureA (i := 23) (N := some 94) (bitsA 25 16777215) ?_
    refine pureA (i := 24) (N := some 95) (bitsA 25 33554431) ?_
    refine done_ (done_of HT_.out dq21) ?_
    try go_wp2
    go_ret2
    exact ⟨_, dq97, dq96, dq17⟩
   replace c44 := Bool.eq_false_iff.mpr c44
   subst c44
   have H1 : (some (([] : List Int), false)) = some (r1, r2) := by rw [if_neg (show ¬ (false = true) by decide)] at H; exact H
   clear H
   have H := H1
   clear H1
   simp only [Option.some.injEq, Prod.mk.injEq] at H
   obtain ⟨rfl, rfl⟩ := H
   try go_wp2
   have n0_ := Aside0.mk (Kd.R_drew HO_6.out)
   have n1_ := Aside0.mk (Kd.R_drew HO_7.out)
   have n2_ := Aside0.mk (below_drew1 HB.out)
   clear HO_6
   clear HO_7
   clear HB
   have HO_6 := n0_
   have HO_7 := n1_
   have HB := n2_
   clear n0_ n1_ n2_
   have p479 : 0 ≤ ((ji40) : Int) := of_decide_eq_true dq22
   have q479 : (ji40) < (x6_2.length : Int) := of_decide_eq_true dq22
   (try (obtain ⟨Aq_, cq_, eq_⟩ := Kd.R_slice HO_6.out; subst eq_))
   obtain ⟨ad479, e479, hx479_0⟩ := Kd.at_int (Kd.R_reads' HO_6.out).2.2 (ji40) p479 q479
   cases e479
   replace p479 := eq_true p479
   replace q479 := eq_true q479
   refine start_ (n := 25) (S := fun w' => w'.cell? (ad479.add ((ji40)).toNat) = some (.int .i64 (rd x6_2 (ji40)))) (ds := []) (bitsA 25 0) dq21 rfl rfl (hx479_0) (fun hHeld => ?_); refine with_tabW spec_Attribute.tab18 spec_Attribute.bits18 (fun HT_ HW_ => ?_)
   generalize wr.drew = w50 at HO_6 HO_7 HB hx479_0 hHeld ⊢
   refine pureA (i := 0) (N := some 71) (bitsA 25 1) ?_
   refine pureA (i := 1) (N := some 72) (bitsA 25 3) ?_
   refine pureA (i := 2) (N := some 73) (bitsA 25 7) ?_
   refine pureA (i := 3) (N := some 74) (bitsA 25 15) ?_
   refine pureA (i := 4) (N := some 75) (bitsA 25 31) ?_
   refine one_ (i := 5) (N := some 76) (bitsA 25 63) rfl rfl (one_of HT_.out dq21) dq26 (fun K hK => ?_)
   refine goes_ Try.func51 dq21 rfl #[.slice A0 l0.length c0] (by rfl) rfl rfl dq20 ?_
   with_reducible refine (spec_Nullable.calls k2 _ _ l0 true _ ?side1 ?side2 A36.out).mono ?_
   (case side1 => exact dq5)
   (case side2 => exact dq4)
   rintro e w51 ⟨rfl, hb⟩
   have HS0_ := (hb.cell (World.block_lt_of_cell? _ _ (hHeld))).trans (hHeld)
   refine ⟨_, rfl, ?_⟩
   have n0_ := Aside0.mk (Kd.R_below dq93 hb)
   have n1_ := Aside0.mk (Kd.R_below dq92 hb)
   have n2_ := Aside0.mk (below_step dq17 hb)
   clear HO_6
   clear HO_7
   clear HB
   have HO_6 := n0_
   have HO_7 := n1_
   have HB := n2_
   clear n0_ n1_ n2_
   (try clear hb)
   (try clear hb2)
   (try clear hk)
   (try clear hi)
   refine hK.out _ _ (HS0_) (fun hHeld => ?_)
   clear hK K
   refine norm_ (a' := ?_) ?_ ?_
   rotate_left
   ·show Act.put _ (some 76) _ = _
    simp only [Act.put, List.setIfInBounds_toArray, List.set_cons_zero, List.set_cons_succ, i64_w, i32_w]
    rfl
   refine pureA (i := 6) (N := some 77) (bitsA 25 127) ?_
   refine pureA (i := 7) (N := some 78) (bitsA 25 255) ?_
   refine pureA (i := 8) (N := some 79) (bitsA 25 511) ?_
   refine pureA (i := 9) (N := some 80) (bitsA 25 1023) ?_
   refine pureA (i := 10) (N := some 81) (bitsA 25 2047) ?_
   refine pureA (i := 11) (N := some 82) (bitsA 25 4095) ?_
   refine pureA (i := 12) (N := some 83) (bitsA 25 8191) ?_
   refine pureA (i := 13) (N := some 84) (bitsA 25 16383) ?_
   refine pureA (i := 15) (N := some 86) (bitsA 25 49151) ?_
   refine pureA (i := 16) (N := some 87) (bitsA 25 114687) ?_
   refine pureA (i := 17) (N := some 88) (bitsA 25 245759) ?_
   refine pureA (i := 18) (N := some 89) (bitsA 25 507903) ?_
   refine pureA (i := 19) (N := some 90) (bitsA 25 1032191) ?_
   refine take_ (i := 20) (N := some 91) (v := ?_) (a' := ?_) (bitsA 25 2080767) rfl rfl (take_ofW HT_.out HW_.out dq21) (fun _ _ _ h => h) (Or.inl ⟨by rfl, ?_⟩) hHeld ?_ ?_
   rotate_left
   ·intro w' s0
    go_simp
    with_reducible rfl
   rotate_left
   ·exact dAct
   refine one_ (i := 14) (N := some 85) (bitsA 25 2097151) rfl rfl (one_of HT_.out dq21) dq26 (fun K hK => ?_)
   refine goes_ Try.func18 dq21 rfl #[.slice A0 l0.length c0] (by rfl) rfl rfl dq20 ?_
   with_reducible refine (spec_LastOf.calls k2 _ _ l0 t476 _ ?side1 ?side2 A39.out).mono ?_
   (case side1 => exact dq5)
   (case side2 => exact dq4)
   rintro e w52 ⟨v477, rfl, ho0, hb⟩
   have HS0_ := (hb.cell (World.block_lt_of_cell? _ _ (hHeld))).trans (hHeld)
   refine ⟨_, rfl, ?_⟩
   have n0_ := Aside0.mk (Kd.R_elder' dq93 (Kd.R_base ho0) hb)
   have n1_ := Aside0.mk (Kd.R_elder' dq92 (Kd.R_base ho0) hb)
   have n2_ := Aside0.mk (Kd.R_lower (Kd.R_new' (Kd.R_new' ho0 (Kd.R_lt dq93)) (Kd.R_lt dq92)) (below_size dq17))
   have n3_ := Aside0.mk (below_step dq17 hb)
   clear HO_6
   clear HO_7
   clear HB
   have HO_6 := n0_
   have HO_7 := n1_
   have HO478 := n2_
   have HB := n3_
   clear n0_ n1_ n2_ n3_
   (try clear hb)
   (try clear hb2)
   (try clear hk)
   (try clear hi)
   (try clear ho0)
   obtain ⟨Ao53, co53, eo53⟩ := Kd.R_slice HO_6.out
   (first | subst eo53 | (injection eo53 with f1_ f2_ f3_; have f4_ := f1_.symm; have f5_ := f3_.symm; clear f1_ f2_ f3_; subst f4_; subst f5_))
   obtain ⟨Ao54, co54, eo54⟩ := Kd.R_slice HO478.out
   (first | subst eo54 | (injection eo54 with f1_ f2_ f3_; have f4_ := f1_.symm; have f5_ := f3_.symm; clear f1_ f2_ f3_; subst f4_; subst f5_))
   refine hK.out _ _ (HS0_) (fun hHeld => ?_)
   clear hK K
   refine norm_ (a' := ?_) ?_ ?_
   rotate_left
   ·show Act.put _ (some 85) _ = _
    simp only [Act.put, List.setIfInBounds_toArray, List.set_cons_zero, List.set_cons_succ, i64_w, i32_w]
    rfl
   refine one_ (i := 21) (N := some 92) (bitsA 25 4194303) rfl rfl (one_of HT_.out dq21) dq26 (fun K hK => ?_)
   refine goes_ Try.func52 dq21 rfl #[.slice Ao54 t476.length co54, .int .i64 (rd x6_2 (ji40))] (by rfl) rfl rfl dq95 ?_
   with_reducible refine (spec_l8Has.calls k2 _ _ t476 (rd x6_2 (ji40)) false _ ?side1 ?side2 A43.out).mono ?_
   (case side1 => repeat (first | exact (Kd.R_reads' HO478.out).2.2 | (with_reducible refine Kd.C_alloc ?_ _) | (with_reducible refine Kd.C_drewN ?_ _) | (with_reducible refine Kd.C_drew ?_)))
   (case side2 => exact (Kd.R_reads' HO478.out).2.1)
   rintro e w' ⟨rfl, ⟨nd, rfl⟩⟩
   refine ⟨_, rfl, ?_⟩
   refine hK.out _ _ (hHeld) (fun hHeld => ?_)
   clear hK K
   refine norm_ (a' := ?_) ?_ ?_
   rotate_left
   ·show Act.put _ (some 92) _ = _
    simp only [Act.put, List.setIfInBounds_toArray, List.set_cons_zero, List.set_cons_succ, i64_w, i32_w]
    rfl
   refine pureA (i := 22) (N := some 93) (bitsA 25 8388607) ?_
   refine pureA (i := 23) (N := some 94) (bitsA 25 16777215) ?_
   refine pureA (i := 24) (N := some 95) (bitsA 25 33554431) ?_
   refine done_ (done_of HT_.out dq21) ?_
   try go_wp2
   go_ret2
   exact ⟨_, dq97, dq91, dq17⟩

/-! ### laws_toStringS: function 26 -/
def laws_toStringS.l0 : Nat → List ByteArray → List ByteArray → Int → Option (List ByteArray)
 | 0, _, _, _ => none
 | k + 1, x0, x3, x4 => if x4 < (x0.length : Int) then (if 0 ≤ x4 then (if x4 < (x3.length : Int) then (laws_toStringS.l0 k x0 (x3.set (x4 : Int).toNat (rdOf ByteArray.empty x0 x4)) (wrap64 (x4 + 1))) else (none)) else (none)) else (some x3)
def laws_toStringS.f (k : Nat) (l0 : List ByteArray) : Option (List ByteArray) := if 0 ≤ (l0.length : Int) then (if ((l0.length : Int) : Int).toNat ≤ 17592186044416 then (laws_toStringS.l0 k l0 (List.replicate ((l0.length : Int) : Int).toNat (⟨#[]⟩ : ByteArray)) 0) else (none)) else (none)
set_option maxHeartbeats 8000000 in
set_option maxRecDepth 100000 in
theorem laws_toStringS.calls (k : Nat) (A0 : Option Addr) (c0 : Nat) (l0 : List ByteArray) (r : List ByteArray) (w : World) (hr0 : Kd.C Kd.string w A0 l0.length l0) (hc0 : l0.length ≤ c0) (h : laws_toStringS.f k l0 = some r) :
  Calls Try.prog 26 #[.slice A0 l0.length c0] w fun e w' => ∃ v0_ : Value, e = .returned (v0_) ∧ Kd.R Kd.string 9 w' w.heap.size (fun _ => True) v0_ r ∧ Below w.heap.size w w' := by
 have HR0 := Aside0.mk hr0
 have HC0 := Aside0.mk hc0
 clear hr0 hc0
 have HB := Aside0.mk (Below.refl w.heap.size w)
 have H : (if 0 ≤ (l0.length : Int) then (if ((l0.length : Int) : Int).toNat ≤ 17592186044416 then (laws_toStringS.l0 k l0 (List.replicate ((l0.length : Int) : Int).toNat (⟨#[]⟩ : ByteArray)) 0) else (none)) else (none)) = some r := h
 clear h
 by_cases c2 : 0 ≤ (l0.length : Int)
 rotate_left
 ·rw [if_neg c2] at H
  exact absurd H dq24
 rw [if_pos c2] at H
 have c2b0 := eq_true c2
 have c2b1 := decide_eq_true c2
 clear c2
 by_cases c3 : ((l0.length : Int) : Int).toNat ≤ 17592186044416
 rotate_left
 ·rw [if_neg c3] at H
  exact absurd H dq24
 rw [if_pos c3] at H
 have c3b0 := eq_true c3
 have c3b1 := decide_eq_true c3
 clear c3
 obtain ⟨y486, hy486⟩ : ∃ y_ : List ByteArray, y_ = (List.replicate ((l0.length : Int) : Int).toNat (⟨#[]⟩ : ByteArray)) := ⟨_, rfl⟩
 replace H : (laws_toStringS.l0 k l0 y486 0) = some r := by first | (rw [hy486]; with_reducible exact H) | (have H2_ := (Option.bind_some _ _).symm.trans H; rw [hy486]; with_reducible exact H2_) | (have H2_ := (Option.bind_some _ _).symm.trans H; with_reducible exact H2_) | with_reducible exact H | (rw [hy486]; exact H) | exact H
 have Ny486 := Aside0.mk hy486
 clear hy486
 have H' := Aside0.mk H
 clear H
 go_enter Try.func26, Try.ntmps26
 go_wp2_with (first | ((with_reducible refine gate_dst (N := 7) rfl ?_); refine Kd.R_make Kd.string _ 9 rfl (N := 7) rfl 36 _ _ rfl (l0.length : Int) rfl rfl Try.underlying36 (.string ⟨#[]⟩) 16 info9 rfl dq26 dq25 (⟨#[]⟩ : ByteArray) (ok := fun _ => True) (okp := fun _ => True) rfl (fun _ hk => hk) trivial (of_decide_eq_true dq22) (Nat.le_trans (Nat.mul_le_mul_right _ (of_decide_eq_true dq22 : (l0.length : Int).toNat ≤ 17592186044416)) dq25) (Below.refl _ _) (Nat.le_refl _) ?_; intro v487 w4 ho5 hb hg_ hnew_; clear hg_ hnew_; (first | rw [← Ny486.out] at ho5 | (simp only [Int.reduceToNat] at ho5; rw [← Ny486.out] at ho5)); have n0_ := Aside0.mk (Kd.R_lower ho5 (below_size dq17)); have n1_ := Aside0.mk (below_step dq17 hb); clear HB; have HO488 := n0_; have HB := n1_; clear n0_ n1_; clear hb ho5))
 go_loopg [4] k (fun kq v4 w' => ∃ (x3_1 : List ByteArray) (x4_1 : Int), v4 = .int .i64 x4_1 ∧ Aside0 (laws_toStringS.l0 kq l0 x3_1 x4_1 = some r) ∧ Aside0 (kq ≤ k) ∧ Aside0 (Kd.R Kd.string 9 w' w.heap.size (fun _ => True) v487 x3_1) ∧ Aside0 (Below w.heap.size w w'))
 case atStart => exact ⟨(y486), (0), dq15, H', ⟨Nat.le_refl _⟩, ⟨by (with_reducible repeat (first | apply Kd.R_alloc | apply Kd.R_drewN | apply Kd.R_drew)); exact HO488.out⟩, ⟨dq17⟩⟩
 clear H'
 try clear c2
 try clear c2b0
 try clear c2b1
 try clear p2
 try clear c3
 try clear c3b0
 try clear c3b1
 obtain ⟨x3_1, x4_1, rfl, HA, HK1, HO_3, HB⟩ := hrel
 cases gk with
 | zero => exact absurd HA.out (by simp [laws_toStringS.l0])
 | succ k1 =>
  have H := HA.out
  clear HA
  simp only [laws_toStringS.l0] at H
  by_cases c6 : x4_1 < (l0.length : Int)
  rotate_left
  ·rw [if_neg c6] at H
   have c6b0 := decide_eq_false c6
   clear c6
   obtain rfl := Option.some.inj H
   go_wp2
   go_ret
   exact ⟨_, dq19, dq27, dq17⟩
  rw [if_pos c6] at H
  have c6b0 := decide_eq_true c6
  clear c6
  by_cases c7 : 0 ≤ x4_1
  rotate_left
  ·rw [if_neg c7] at H
   exact absurd H dq24
  rw [if_pos c7] at H
  have c7b0 := decide_eq_true c7
  clear c7
  by_cases c8 : x4_1 < (x3_1.length : Int)
  rotate_left
  ·rw [if_neg c8] at H
   exact absurd H dq24
  rw [if_pos c8] at H
  have c8b0 := decide_eq_true c8
  clear c8
  obtain ⟨y490, hy490⟩ : ∃ y_ : List ByteArray, y_ = (x3_1.set (x4_1 : Int).toNat (rdOf ByteArray.empty l0 x4_1)) := ⟨_, rfl⟩
  replace H : (laws_toStringS.l0 k1 l0 y490 (wrap64 (x4_1 + 1))) = some r := by first | (rw [hy490]; with_reducible exact H) | (have H2_ := (Option.bind_some _ _).symm.trans H; rw [hy490]; with_reducible exact H2_) | (have H2_ := (Option.bind_some _ _).symm.trans H; with_reducible exact H2_) | with_reducible exact H | (rw [hy490]; exact H) | exact H
  have Ny490 := Aside0.mk hy490
  clear hy490
  have H' := Aside0.mk H
  clear H
  have p489 : 0 ≤ (x4_1 : Int) := of_decide_eq_true dq22
  have q489 : x4_1 < (l0.length : Int) := of_decide_eq_true dq22
  obtain ⟨ad489, e489, hx489_0⟩ := Kd.at_string HR0.out x4_1 p489 q489
  cases e489
  replace hx489_0 := (HB.out.cell (World.block_lt_of_cell? w _ hx489_0)).trans hx489_0
  replace p489 := eq_true p489
  replace q489 := eq_true q489
  have p9 : 0 ≤ (x4_1 : Int) := of_decide_eq_true dq22
  have q9 : (x4_1 : Int) < ((x3_1.length : Int) : Int) := of_decide_eq_true dq22
  obtain ⟨go9, co9, eo9, gb9, gl9, cl9, HG9⟩ := Kd.R_form HO_3.out dq25
  (first | cases eo9 | (injection eo9 with ea_ en_ ec_; (first | subst ea_ | (injection ea_ with ea_; subst ea_)); subst ec_; clear en_))
  have GB9 := Aside0.mk gb9
  have GG9 := Aside0.mk HG9
  clear gb9 gl9 HG9
  obtain ⟨hx9_0, hf9_0⟩ := Kd.R_celln (⟨#[]⟩ : ByteArray) HO_3.out (x4_1 : Int) p9 q9
  replace p9 := eq_true p9
  replace q9 := eq_true q9
  have HP10 := Kd.R_putg HO_3.out (x4_1 : Int) (rdOf ByteArray.empty l0 x4_1)
  go_wp2_with (first | ((with_reducible refine gate_store (t := 9) (p := 20) rfl ?_); refine store_event (t := 9) (p := 20) (v := ?vo_w11) (w1 := (wr.setCell ⟨go9, (x4_1 : Int).toNat, none⟩ (.string (rdOf ByteArray.empty l0 x4_1)))) ?hg ?ho ?hn ?hr ?_; (case ho => rfl); (case hg => rfl); (case hn => rfl); (case hr => exact dq0); intro w11 hw; have hg : wr.grownBy w11 (some go9) := (by rw [hw]; exact HP10.2); have hp_ : Kd.R Kd.string 9 w11 w.heap.size (fun _ => True) (.slice (some ⟨go9, 0, none⟩) x3_1.length co9) y490 := (by rw [hw, Ny490.out]; exact HP10.1); clear HP10; have n0_ := Aside0.mk (hp_); have n1_ := Aside0.mk ((by rw [hw]; exact below_set (HB.out) GB9.out : Below w.heap.size w w11)); clear HO_3; clear HB; have HO_3 := n0_; have HB := n1_; clear n0_ n1_; clear hg hw hp_))
  go_roundg k1
  case measure => have := HK1.out; omega
  case rel => exact ⟨(y490), (wrap64 (x4_1 + 1)), dq15, H', ⟨dq23⟩, ⟨dq27⟩, ⟨dq17⟩⟩

/-! ### laws_eqStringS: function 28 -/
def laws_eqStringS.l0 : Nat → List ByteArray → List ByteArray → Int → Option (Bool)
 | 0, _, _, _ => none
 | k + 1, x0, x1, x5 => if x5 < (x0.length : Int) then (if 0 ≤ x5 then (if x5 < (x1.length : Int) then (if (rdOf ByteArray.empty x0 x5).toList = (rdOf ByteArray.empty x1 x5).toList then (laws_eqStringS.l0 k x0 x1 (wrap64 (x5 + 1))) else (some false)) else (none)) else (none)) else (some true)
def laws_eqStringS.f (k : Nat) (l0 : List ByteArray) (l1 : List ByteArray) : Option (Bool) := if (l0.length : Int) = (l1.length : Int) then (laws_eqStringS.l0 k l0 l1 0) else (some false)
set_option maxHeartbeats 8000000 in
set_option maxRecDepth 100000 in
theorem laws_eqStringS.calls (k : Nat) (A0 : Option Addr) (c0 : Nat) (l0 : List ByteArray) (A1 : Option Addr) (c1 : Nat) (l1 : List ByteArray) (r : Bool) (w : World) (hr0 : Kd.C Kd.string w A0 l0.length l0) (hc0 : l0.length ≤ c0) (hr1 : Kd.C Kd.string w A1 l1.length l1) (hc1 : l1.length ≤ c1) (h : laws_eqStringS.f k l0 l1 = some r) :
  Calls Try.prog 28 #[.slice A0 l0.length c0, .slice A1 l1.length c1] w fun e w' => e = .returned (.bool r) ∧ Drawn0 w w' := by
 have HR0 := Aside0.mk hr0
 have HC0 := Aside0.mk hc0
 clear hr0 hc0
 have HR1 := Aside0.mk hr1
 have HC1 := Aside0.mk hc1
 clear hr1 hc1
 have H : (if (l0.length : Int) = (l1.length : Int) then (laws_eqStringS.l0 k l0 l1 0) else (some false)) = some r := h
 clear h
 by_cases c3 : (l0.length : Int) = (l1.length : Int)
 rotate_left
 ·rw [if_neg c3] at H
  have c3b0 := beq_eq_false_iff_ne.mpr c3
  have c3b1 := bne_iff_ne.mpr c3
  have c3b2 : (l0.length == l1.length) = false := by first | simpa using c3 | (simp at c3 ⊢; omega)
  obtain rfl := Option.some.inj H
  go_enter Try.func28, Try.ntmps28
  go_wp2
  repeat (go_quiet (fail); try go_wp2)
  go_ret
  exact ⟨dq15, dq14⟩
 rw [if_pos c3] at H
 have c3b0 := beq_iff_eq.mpr c3
 have c3b1 := bne_eq_false_iff_eq.mpr c3
 have c3b2 : (l0.length == l1.length) = true := by first | simpa using c3 | (simp at c3 ⊢; omega)
 clear c3
 have H' := Aside0.mk H
 clear H
 go_enter Try.func28, Try.ntmps28
 go_wp2
 repeat (go_quiet (fail); try go_wp2)
 go_loopg [5] k (fun kq v5 w' => ∃ (x5_1 : Int), v5 = .int .i64 x5_1 ∧ Aside0 (laws_eqStringS.l0 kq l0 l1 x5_1 = some r) ∧ Aside0 (kq ≤ k) ∧ Drawn0 w w')
 case atStart => exact ⟨(0), dq15, H', ⟨Nat.le_refl _⟩, dq14⟩
 clear H'
 try clear c1
 try clear c2
 try clear p2
 try clear c3
 try clear c3b0
 try clear c3b1
 try clear c3b2
 obtain ⟨x5_1, rfl, HA, HK1, ⟨m1, rfl⟩⟩ := hrel
 cases gk with
 | zero => exact absurd HA.out (by simp [laws_eqStringS.l0])
 | succ k1 =>
  have H := HA.out
  clear HA
  simp only [laws_eqStringS.l0] at H
  by_cases c4 : x5_1 < (l0.length : Int)
  rotate_left
  ·rw [if_neg c4] at H
   have c4b0 := decide_eq_false c4
   clear c4
   obtain rfl := Option.some.inj H
   go_wp2
   repeat (go_quiet (fail); try go_wp2)
   go_ret
   exact ⟨dq15, dq14⟩
  rw [if_pos c4] at H
  have c4b0 := decide_eq_true c4
  clear c4
  by_cases c5 : 0 ≤ x5_1
  rotate_left
  ·rw [if_neg c5] at H
   exact absurd H dq24
  rw [if_pos c5] at H
  have c5b0 := decide_eq_true c5
  clear c5
  by_cases c6 : x5_1 < (l1.length : Int)
  rotate_left
  ·rw [if_neg c6] at H
   exact absurd H dq24
  rw [if_pos c6] at H
  have c6b0 := decide_eq_true c6
  clear c6
  by_cases c7 : (rdOf ByteArray.empty l0 x5_1).toList = (rdOf ByteArray.empty l1 x5_1).toList
  rotate_left
  ·rw [if_neg c7] at H
   have c7b0 := beq_eq_false_iff_ne.mpr c7
   have c7b1 := bne_iff_ne.mpr c7
   obtain rfl := Option.some.inj H
   have p491 : 0 ≤ (x5_1 : Int) := of_decide_eq_true dq22
   have q491 : x5_1 < (l0.length : Int) := of_decide_eq_true dq22
   obtain ⟨ad491, e491, hx491_0⟩ := Kd.at_string HR0.out x5_1 p491 q491
   cases e491
   replace p491 := eq_true p491
   replace q491 := eq_true q491
   have p492 : 0 ≤ (x5_1 : Int) := of_decide_eq_true dq22
   have q492 : x5_1 < (l1.length : Int) := of_decide_eq_true dq22
   obtain ⟨ad492, e492, hx492_0⟩ := Kd.at_string HR1.out x5_1 p492 q492
   cases e492
   replace p492 := eq_true p492
   replace q492 := eq_true q492
   go_wp2
   repeat (go_quiet (fail); try go_wp2)
   go_ret
   exact ⟨dq15, dq14⟩
  rw [if_pos c7] at H
  have c7b0 := beq_iff_eq.mpr c7
  have c7b1 := bne_eq_false_iff_eq.mpr c7
  clear c7
  have H' := Aside0.mk H
  clear H
  have p491 : 0 ≤ (x5_1 : Int) := of_decide_eq_true dq22
  have q491 : x5_1 < (l0.length : Int) := of_decide_eq_true dq22
  obtain ⟨ad491, e491, hx491_0⟩ := Kd.at_string HR0.out x5_1 p491 q491
  cases e491
  replace p491 := eq_true p491
  replace q491 := eq_true q491
  have p492 : 0 ≤ (x5_1 : Int) := of_decide_eq_true dq22
  have q492 : x5_1 < (l1.length : Int) := of_decide_eq_true dq22
  obtain ⟨ad492, e492, hx492_0⟩ := Kd.at_string HR1.out x5_1 p492 q492
  cases e492
  replace p492 := eq_true p492
  replace q492 := eq_true q492
  go_wp2
  repeat (go_quiet (fail); try go_wp2)
  go_roundg k1
  case measure => have := HK1.out; omega
  case rel => exact ⟨(wrap64 (x5_1 + 1)), dq15, H', ⟨dq23⟩, dq14⟩

/-! ### laws_markText: function 41 -/
def laws_markText.l0 : Nat → Int → ByteArray → Option (ByteArray)
 | 0, _, _ => none
 | k + 1, x0, x3 => if x0 > 0 then ((some (([(wrap64 (48 + (Int.tmod x0 10))) % 256] : List Int) : List Int)).bind fun y266 => (if (strOfNums y266).size + x3.size ≤ 9223372036854775807 then (laws_markText.l0 k (wrap64 (Int.tdiv x0 10)) ((strOfNums y266) ++ x3)) else (none))) else (if 1 + x3.size ≤ 9223372036854775807 then (some ((⟨#[109]⟩ : ByteArray) ++ x3)) else (none))
def laws_markText.f (k : Nat) (a0 : Int) : Option (ByteArray) := if a0 ≤ 0 then (some (⟨#[109, 48]⟩ : ByteArray)) else (laws_markText.l0 k a0 (⟨#[]⟩ : ByteArray))
set_option maxHeartbeats 8000000 in
set_option maxRecDepth 100000 in
theorem laws_markText.calls (k : Nat) (a0 : Int) (r : ByteArray) (w : World) (h : laws_markText.f k a0 = some r) :
  Calls Try.prog 41 #[.int .i64 a0] w fun e w' => e = .returned (.string r) ∧ Below w.heap.size w w' := by
 have HB := Aside0.mk (Below.refl w.heap.size w)
 have H : (if a0 ≤ 0 then (some (⟨#[109, 48]⟩ : ByteArray)) else (laws_markText.l0 k a0 (⟨#[]⟩ : ByteArray))) = some r := h
 clear h
 by_cases c2 : a0 ≤ 0
 ·rw [if_pos c2] at H
  have c2b0 := decide_eq_true c2
  clear c2
  obtain rfl := Option.some.inj H
  go_enter Try.func41, Try.ntmps41
  go_wp2
  go_ret
  exact ⟨dq19, dq17⟩
 rw [if_neg c2] at H
 have c2b0 := decide_eq_false c2
 clear c2
 have H' := Aside0.mk H
 clear H
 go_enter Try.func41, Try.ntmps41
 go_wp2
 go_loopg [0, 3] k (fun kq v0 v3 w' => ∃ (x0_1 : Int) (x3_1 : ByteArray), v0 = .int .i64 x0_1 ∧ v3 = .string x3_1 ∧ Aside0 (laws_markText.l0 kq x0_1 x3_1 = some r) ∧ Aside0 (kq ≤ k) ∧ Aside0 (Below w.heap.size w w'))
 case atStart => exact ⟨(a0), ((⟨#[]⟩ : ByteArray)), dq15, dq15, H', ⟨Nat.le_refl _⟩, ⟨dq17⟩⟩
 clear H'
 try clear c2
 try clear c2b0
 try clear p2
 obtain ⟨x0_1, x3_1, rfl, rfl, HA, HK1, HB⟩ := hrel
 cases gk with
 | zero => exact absurd HA.out (by simp [laws_markText.l0])
 | succ k1 =>
  have H := HA.out
  clear HA
  simp only [laws_markText.l0] at H
  by_cases c3 : x0_1 > 0
  rotate_left
  ·rw [if_neg c3] at H
   have c3b0 : decide (0 < x0_1) = false := decide_eq_false c3
   clear c3
   by_cases c8 : 1 + x3_1.size ≤ 9223372036854775807
   rotate_left
   ·rw [if_neg c8] at H
    exact absurd H dq24
   rw [if_pos c8] at H
   have c8b0 := eq_true c8
   have c8b1 := decide_eq_true c8
   try have c8b2 : (9223372036854775807 < 1 + x3_1.size) = False := eq_false (Nat.not_lt.2 c8)
   obtain rfl := Option.some.inj H
   go_wp2
   go_ret
   exact ⟨dq19, dq17⟩
  rw [if_pos c3] at H
  have c3b0 : decide (0 < x0_1) = true := decide_eq_true c3
  clear c3
  obtain ⟨y266, hy266⟩ : ∃ y_ : List Int, y_ = (([(wrap64 (48 + (Int.tmod x0_1 10))) % 256] : List Int)) := ⟨_, rfl⟩
  replace H : (if (strOfNums y266).size + x3_1.size ≤ 9223372036854775807 then (laws_markText.l0 k1 (wrap64 (Int.tdiv x0_1 10)) ((strOfNums y266) ++ x3_1)) else (none)) = some r := by first | (rw [hy266]; with_reducible exact H) | (have H2_ := (Option.bind_some _ _).symm.trans H; rw [hy266]; with_reducible exact H2_) | (have H2_ := (Option.bind_some _ _).symm.trans H; with_reducible exact H2_) | with_reducible exact H | (rw [hy266]; exact H) | exact H
  have Ny266 := Aside0.mk hy266
  clear hy266
  by_cases c4 : (strOfNums y266).size + x3_1.size ≤ 9223372036854775807
  rotate_left
  ·rw [if_neg c4] at H
   exact absurd H dq24
  rw [if_pos c4] at H
  have c4b0 := eq_true c4
  have c4b1 := decide_eq_true c4
  try have c4b2 : (9223372036854775807 < (strOfNums y266).size + x3_1.size) = False := eq_false (Nat.not_lt.2 c4)
  have H' := Aside0.mk H
  clear H
  go_wp2_with (first | ((with_reducible refine gate_dst (N := 12) rfl ?_); refine Kd.R_lit (Kd.int .u8) _ 5 ?hg (N := 12) ?hd (xs := ([(wrap64 (48 + (Int.tmod x0_1 10))) % 256] : List Int)) (inner := [.int .u8 ((wrap64 (48 + (Int.tmod x0_1 10))) % 256)]) (ok := fun _ => True) (okp := fun _ => True) ?hr ?hp (fun _ hk => hk) trivial (Below.refl _ _) (Nat.le_refl _) dq24 ?_; (case hd => rfl); (case hg => rfl); (case hr => exact dq0); (case hp => exact (Reps.one (show Kd.M (Kd.int .u8) _ _ _ ((wrap64 (48 + (Int.tmod x0_1 10))) % 256) [.int .u8 ((wrap64 (48 + (Int.tmod x0_1 10))) % 256)] from rfl) (Reps.none _ _))); intro v267 w5 ho6 hb hg_ hnew_; clear hg_ hnew_; (first | rw [← Ny266.out] at ho6 | (simp only [Int.reduceToNat] at ho6; rw [← Ny266.out] at ho6)); have n0_ := Aside0.mk (Kd.R_lower ho6 (below_size dq17)); have n1_ := Aside0.mk (below_step dq17 hb); clear HB; have HO268 := n0_; have HB := n1_; clear n0_ n1_; clear hb ho6; have hcv7 := own_string (P := Try.prog) Try.underlying75 Try.underlying5 Try.underlying9 (Kd.own_of_R HO268.out)))
  go_roundg k1
  case measure => have := HK1.out; omega
  case rel => exact ⟨(wrap64 (Int.tdiv x0_1 10)), ((strOfNums y266) ++ x3_1), dq15, dq15, H', ⟨dq23⟩, ⟨dq17⟩⟩

/-! ### laws_markStringS: function 29 -/
def laws_markStringS.l0 : Nat → List ByteArray → Int → Int → Option (Int × List ByteArray)
 | 0, _, _, _ => none
 | k + 1, x0, x1, x5 => if x5 < (x0.length : Int) then ((laws_markText.f k x1).bind fun t493 => (if 0 ≤ x5 then (laws_markStringS.l0 k (x0.set (x5 : Int).toNat t493) (wrap64 (x1 + 1)) (wrap64 (x5 + 1))) else (none))) else (some (x1, x0))
def laws_markStringS.f (k : Nat) (l0 : List ByteArray) (a1 : Int) : Option (Int × List ByteArray) := laws_markStringS.l0 k l0 a1 0
set_option maxHeartbeats 8000000 in
set_option maxRecDepth 100000 in
theorem laws_markStringS.calls (k : Nat) (P0_ : Nat → Prop) (u9000_ : Value) (l0 : List ByteArray) (a1 : Int) (r1 : Int) (r2 : List ByteArray) (w0 w : World) (hB : Below w0.heap.size w0 w) (ho0 : Kd.R Kd.string 9 w w0.heap.size P0_ u9000_ l0) (h : laws_markStringS.f k l0 a1 = some (r1, r2)) :
  Calls Try.prog 29 #[u9000_, .int .i64 a1] w fun e w' => e = .returned (.int .i64 r1) ∧ Kd.R Kd.string 9 w' w0.heap.size (fun k_ => (P0_ k_ ∨ w.heap.size ≤ k_)) u9000_ r2 ∧ Below w0.heap.size w0 w' ∧ Kept w w' (fun k_ => P0_ k_) := by
 have HO0 := Aside0.mk (show Kd.R Kd.string 9 w w0.heap.size (fun k_ => (P0_ k_ ∨ w.heap.size ≤ k_)) u9000_ l0 from Kd.R_mono ho0 (fun k_ hk => (.inl hk)))
 have HK := Aside0.mk (Kept.refl w (fun k_ => P0_ k_))
 have HW0 := Aside0.mk hB.size
 have HB := Aside0.mk hB
 clear hB
 have H : (laws_markStringS.l0 k l0 a1 0) = some (r1, r2) := h
 clear h
 have H' := Aside0.mk H
 clear H
 go_enter Try.func29, Try.ntmps29
 go_wp2
 go_loopg [1, 5] k (fun kq v1 v5 w' => ∃ (x0_1 : List ByteArray) (x1_1 : Int) (x5_1 : Int), v1 = .int .i64 x1_1 ∧ v5 = .int .i64 x5_1 ∧ Aside0 (laws_markStringS.l0 kq x0_1 x1_1 x5_1 = some (r1, r2)) ∧ Aside0 (kq ≤ k) ∧ Aside0 (Kd.R Kd.string 9 w' w0.heap.size (fun k_ => (P0_ k_ ∨ w.heap.size ≤ k_)) u9000_ x0_1) ∧ Aside0 (Kept w w' (fun k_ => P0_ k_)) ∧ Aside0 (Below w0.heap.size w0 w'))
 case atStart => exact ⟨(l0), (a1), (0), dq15, dq15, H', ⟨Nat.le_refl _⟩, ⟨by (with_reducible repeat (first | apply Kd.R_alloc | apply Kd.R_drewN | apply Kd.R_drew)); exact HO0.out⟩, ⟨dq43⟩, ⟨dq17⟩⟩
 clear H'
 try clear c2
 try clear p2
 obtain ⟨x0_1, x1_1, x5_1, rfl, rfl, HA, HK1, HO_0, HK, HB⟩ := hrel
 cases gk with
 | zero => exact absurd HA.out (by simp [laws_markStringS.l0])
 | succ k1 =>
  have H := HA.out
  clear HA
  simp only [laws_markStringS.l0] at H
  by_cases c3 : x5_1 < (x0_1.length : Int)
  rotate_left
  ·rw [if_neg c3] at H
   have c3b0 := decide_eq_false c3
   clear c3
   simp only [Option.some.injEq, Prod.mk.injEq] at H
   obtain ⟨rfl, rfl⟩ := H
   obtain ⟨Ao11, co11, eo11⟩ := Kd.R_slice HO_0.out
   subst eo11
   go_wp2
   go_ret
   exact ⟨dq19, dq44, dq17, dq43⟩
  rw [if_pos c3] at H
  have c3b0 := decide_eq_true c3
  clear c3
  replace H := Option.bind_eq_some_iff.mp H
  obtain ⟨t493, A40, H⟩ := H
  replace H : (if 0 ≤ x5_1 then (laws_markStringS.l0 k1 (x0_1.set (x5_1 : Int).toNat t493) (wrap64 (x1_1 + 1)) (wrap64 (x5_1 + 1))) else (none)) = some (r1, r2) := H
  have A4 := Aside0.mk A40
  clear A40
  by_cases c5 : 0 ≤ x5_1
  rotate_left
  ·rw [if_neg c5] at H
   exact absurd H dq24
  rw [if_pos c5] at H
  have c5b0 := decide_eq_true c5
  clear c5
  obtain ⟨y494, hy494⟩ : ∃ y_ : List ByteArray, y_ = (x0_1.set (x5_1 : Int).toNat t493) := ⟨_, rfl⟩
  replace H : (laws_markStringS.l0 k1 y494 (wrap64 (x1_1 + 1)) (wrap64 (x5_1 + 1))) = some (r1, r2) := by first | (rw [hy494]; with_reducible exact H) | (have H2_ := (Option.bind_some _ _).symm.trans H; rw [hy494]; with_reducible exact H2_) | (have H2_ := (Option.bind_some _ _).symm.trans H; with_reducible exact H2_) | with_reducible exact H | (rw [hy494]; exact H) | exact H
  have Ny494 := Aside0.mk hy494
  clear hy494
  have H' := Aside0.mk H
  clear H
  obtain ⟨Ao7, co7, eo7⟩ := Kd.R_slice HO_0.out
  subst eo7
  go_wp2_with (first | ((with_reducible refine gate_callee (f := 41) rfl ?_); refine goesL_ (some 15) rfl rfl Try.func41 dq21 rfl #[.int .i64 x1_1] rfl dq20 ?_; (with_reducible refine (laws_markText.calls k1 x1_1 t493 _ A4.out).mono ?_); rintro e w8 ⟨rfl, hb⟩; refine ⟨_, rfl, ?_⟩; have n0_ := Aside0.mk (Kd.R_below dq44 hb); have n1_ := Aside0.mk (Kept.below (S := (fun k_ => P0_ k_)) dq43 hb); have n2_ := Aside0.mk (below_step dq17 hb); clear HO_0; clear HK; clear HB; have HO_0 := n0_; have HK := n1_; have HB := n2_; clear n0_ n1_ n2_; (try clear hb); (try clear hb2); (try clear hk); (try clear hi); have p6 : 0 ≤ (x5_1 : Int) := of_decide_eq_true dq22; have q6 : (x5_1 : Int) < ((x0_1.length : Int) : Int) := of_decide_eq_true dq22; obtain ⟨go6, co6, eo6, gb6, gl6, cl6, HG6⟩ := Kd.R_form HO_0.out dq25; (first | cases eo6 | (injection eo6 with ea_ en_ ec_; (first | subst ea_ | (injection ea_ with ea_; subst ea_)); subst ec_; clear en_)); have GB6 := Aside0.mk gb6; have GG6 := Aside0.mk HG6; clear gb6 gl6 HG6; have HMgo6 := Aside0.mk (show (P0_ go6 ∨ w.heap.size ≤ go6) from (HO_0.out.1 _ rfl)); obtain ⟨hx6_0, hf6_0⟩ := Kd.R_celln (⟨#[]⟩ : ByteArray) HO_0.out (x5_1 : Int) p6 q6; replace p6 := eq_true p6; replace q6 := eq_true q6; obtain ⟨hy9_, hz9_⟩ := Kd.R_celln (⟨#[]⟩ : ByteArray) HO_0.out (x5_1 : Int) (of_decide_eq_true dq22) (of_decide_eq_true dq22); have HP9 := Kd.R_putg HO_0.out (x5_1 : Int) t493) | ((with_reducible refine gate_store (t := 9) (p := 16) rfl ?_); refine store_event (t := 9) (p := 16) (v := ?vo_w10) (w1 := (w8.setCell ⟨go6, (x5_1 : Int).toNat, none⟩ (.string t493))) ?hg ?ho ?hn ?hr ?_; (case ho => rfl); (case hg => rfl); (case hn => rfl); (case hr => exact dq0); intro w10 hw; have hg : w8.grownBy w10 (some go6) := (by rw [hw]; exact HP9.2); have hp_ : Kd.R Kd.string 9 w10 w0.heap.size (fun k_ => (P0_ k_ ∨ w.heap.size ≤ k_)) (.slice (some ⟨go6, 0, none⟩) x0_1.length co7) y494 := (by rw [hw, Ny494.out]; exact HP9.1); clear HP9; have n0_ := Aside0.mk (hp_); have n1_ := Aside0.mk ((by rw [hw]; exact below_set (HB.out) GB6.out : Below w0.heap.size w0 w10)); have n2_ := Aside0.mk (Kept.of_grown (S := (fun k_ => P0_ k_)) hg dq43 (fun k_ e_ => (HO_0.out.1 k_ e_))); clear HO_0; clear HB; clear HK; have HO_0 := n0_; have HB := n1_; have HK := n2_; clear n0_ n1_ n2_; clear hg hw hp_))
  go_roundg k1
  case measure => have := HK1.out; omega
  case rel => exact ⟨(y494), (wrap64 (x1_1 + 1)), (wrap64 (x5_1 + 1)), dq15, dq15, H', ⟨dq23⟩, ⟨dq44⟩, ⟨dq43⟩, ⟨dq17⟩⟩

/-! ### impl_in: function 47 -/
def impl_in.f (a0 : Int) (a1 : Int) (a2 : Int) : Option (Bool) := if a1 ≤ a0 then (some (decide (a0 ≤ a2))) else (some false)
set_option maxHeartbeats 8000000 in
set_option maxRecDepth 100000 in
theorem impl_in.calls (a0 : Int) (a1 : Int) (a2 : Int) (r : Bool) (w : World) (h : impl_in.f a0 a1 a2 = some r) :
  Calls Try.prog 47 #[.int .i64 a0, .int .i64 a1, .int .i64 a2] w fun e w' => e = .returned (.bool r) ∧ Drawn0 w w' := by
 have H : (if a1 ≤ a0 then (some (decide (a0 ≤ a2))) else (some false)) = some r := h
 clear h
 by_cases c4 : a1 ≤ a0
 ·rw [if_pos c4] at H
  have c4b0 := decide_eq_true c4
  clear c4
  obtain rfl := Option.some.inj H
  go_enter Try.func47, Try.ntmps47
  go_wp2
  go_ret
  exact ⟨dq15, dq14⟩
 rw [if_neg c4] at H
 have c4b0 := decide_eq_false c4
 clear c4
 obtain rfl := Option.some.inj H
 go_enter Try.func47, Try.ntmps47
 go_wp2
 go_ret
 exact ⟨dq15, dq14⟩

/-! ### impl_PNode_isPosition: function 48 -/
def impl_PNode_isPosition.f (a0_0 : Int) (a0_1 : ByteArray) (l0_2 : List Int) (a0_3 : Int) : Option (Bool) := if a0_0 = 1 then (some true) else (some (a0_0 == 4))
set_option maxHeartbeats 8000000 in
set_option maxRecDepth 100000 in
theorem impl_PNode_isPosition.calls (a0_0 : Int) (a0_1 : ByteArray) (A0_2 : Option Addr) (c0_2 : Nat) (l0_2 : List Int) (a0_3 : Int) (r : Bool) (w : World) (hr0_2 : Kd.C (Kd.int .i64) w A0_2 l0_2.length l0_2) (hc0_2 : l0_2.length ≤ c0_2) (h : impl_PNode_isPosition.f a0_0 a0_1 l0_2 a0_3 = some r) :
  Calls Try.prog 48 #[.agg #[.int .i64 a0_0, .string a0_1, .slice A0_2 l0_2.length c0_2, .int .i64 a0_3]] w fun e w' => e = .returned (.bool r) ∧ Below w.heap.size w w' := by
 have hu49 := Try.underlying49
 have HR0_2 := Aside0.mk hr0_2
 have HC0_2 := Aside0.mk hc0_2
 clear hr0_2 hc0_2
 have HB := Aside0.mk (Below.refl w.heap.size w)
 have H : (if a0_0 = 1 then (some true) else (some (a0_0 == 4))) = some r := h
 clear h
 by_cases c2 : a0_0 = 1
 rotate_left
 ·rw [if_neg c2] at H
  have c2b0 := beq_eq_false_iff_ne.mpr c2
  have c2b1 := bne_iff_ne.mpr c2
  obtain rfl := Option.some.inj H
  go_enter Try.func48, Try.ntmps48
  go_wp2_with (first | ((with_reducible refine gate_dst (N := 1) rfl ?_); refine box_event ?hg (N := 1) ?hd (cs := #[.int .i64 a0_0, .string a0_1, .slice A0_2 l0_2.length c0_2, .int .i64 a0_3]) (t := 49) ?hr ?_; (case hd => rfl); (case hg => rfl); (case hr => exact dq0); intro gb231 hg w5 hbox hb; have n0_ := Aside0.mk (below_step dq17 hb); have n1_ := Aside0.mk (hbox); have n2_ := Aside0.mk ((dq16 : w.heap.size ≤ gb231)); have n3_ := Aside0.mk ((dq16 : w.heap.size ≤ gb231)); clear HB; have HB := n0_; have BK231 := n1_; have GW231 := n2_; have GE231 := n3_; clear n0_ n1_ n2_ n3_; clear hb hbox hg; obtain ⟨⟨hcz6_0, hcz6_1, hcz6_2, hcz6_3⟩, hfz6_0, hfz6_1, hfz6_2, hfz6_3⟩ := blkC4 BK231.out))
  go_ret
  exact ⟨dq19, dq100⟩
 rw [if_pos c2] at H
 have c2b0 := beq_iff_eq.mpr c2
 have c2b1 := bne_eq_false_iff_eq.mpr c2
 clear c2
 obtain rfl := Option.some.inj H
 go_enter Try.func48, Try.ntmps48
 go_wp2_with (first | ((with_reducible refine gate_dst (N := 1) rfl ?_); refine box_event ?hg (N := 1) ?hd (cs := #[.int .i64 a0_0, .string a0_1, .slice A0_2 l0_2.length c0_2, .int .i64 a0_3]) (t := 49) ?hr ?_; (case hd => rfl); (case hg => rfl); (case hr => exact dq0); intro gb231 hg w3 hbox hb; have n0_ := Aside0.mk (below_step dq17 hb); have n1_ := Aside0.mk (hbox); have n2_ := Aside0.mk ((dq16 : w.heap.size ≤ gb231)); have n3_ := Aside0.mk ((dq16 : w.heap.size ≤ gb231)); clear HB; have HB := n0_; have BK231 := n1_; have GW231 := n2_; have GE231 := n3_; clear n0_ n1_ n2_ n3_; clear hb hbox hg; obtain ⟨⟨hcz4_0, hcz4_1, hcz4_2, hcz4_3⟩, hfz4_0, hfz4_1, hfz4_2, hfz4_3⟩ := blkC4 BK231.out))
 go_ret
 exact ⟨dq19, dq100⟩

end Go.Proofs.Ytejkkdjfiebmfaa.L
